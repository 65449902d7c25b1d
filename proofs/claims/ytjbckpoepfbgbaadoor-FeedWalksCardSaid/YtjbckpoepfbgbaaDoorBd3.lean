/- 8 texts in one file: Ror, Lnk, Pag, Fed, Pgf, Fdx, Rfx, Fde. -/
import Derived.Test.YtjbckpoepfbgbaaDoorBd2
import Derived.Outline
import Derived.Test.YtjbckpoepfbgbaaDoorBd1
import Derived.Lib.Hide
import Derived.OwnWalk
section
/- The document's order of members: a new row, each member put behind the others and brought forward. -/
set_option linter.unusedVariables false
set_option maxRecDepth 20000
set_option linter.unusedSectionVars false
namespace Go.Proofs.YtjbckpoepfbgbaaDoor.Srt
open Go.Shelf Go.RowKit Go.Lib Go.Sort Go.Proofs.YtjbckpoepfbgbaaDoor.Mrg Go.Proofs.YtjbckpoepfbgbaaDoorW.PrintWords
theorem ret_bool {a b : Bool} (h : a = b) : Ending.returned (Value.bool a) = Ending.returned (Value.bool b) := by rw [h]
abbrev zed : Value := .agg #[(.int .i64 0), (.int .i64 0), (.string ⟨#[]⟩), (.int .i64 0), (.string ⟨#[]⟩), (.string ⟨#[]⟩), (.slice none 0 0), (.slice none 0 0), (.string ⟨#[]⟩)]
set_option maxHeartbeats 1000000 in
theorem ahead (x y : Cel) (w : World) : Calls Tryd.prog 33 #[.agg x.enc.toArray, .agg y.enc.toArray] w fun e w' => e = .returned (.bool (ltOf cmpCel x y)) ∧ Grn w w' := by
  have HG : Hid (Grn w ((w.alloc (Obj.cells x.enc.toArray 40)).alloc (Obj.cells y.enc.toArray 40))) := ((Grn.refl w).alloc _).alloc _
  have hr : Hid (ltOf cmpCel x y = (decide (y.ed < x.ed) || (decide (x.ed = y.ed) && decide (y.num < x.num)))) := by
    show _ = _
    rw [ltOf_cel, Bool.eq_iff_iff]; simp; omega
  unfold Cel.enc at HG ⊢
  go_enter Tryd.func33, Tryd.ntmps33
  go_wp2
  all_goals
    go_ret
    refine ⟨?_, ((Grn.refl w).alloc _).alloc _⟩
    refine ret_bool ?_
    rw [ltOf_cel, Bool.eq_iff_iff]
    simp
    omega
theorem fill_one (z : Nat → Value) (l : List Value) (a : Array Value) (s : Nat) (h : a.size = s + l.length) : (List.foldl (fun cs x => cs.setIfInBounds x.snd x.fst) a (l.zipIdx s)).toList = a.toList.take s ++ l := by
  induction l generalizing a s with
  | nil => simp at h ⊢; rw [List.take_of_length_le (by simp; omega)]
  | cons v l ih =>
    rw [List.zipIdx_cons, List.foldl_cons, ih _ _ (by simp at h ⊢; omega)]
    simp only [Array.toList_setIfInBounds]
    rw [List.take_set, List.take_succ_eq_append_getElem (by simp at h ⊢; omega), List.set_append_right _ _ (by simp; omega)]
    simp at h
    have e : s - min s a.size = 0 := by omega
    simp [e]
theorem fill_all (zc : Array Value) (l : List Value) (k : Nat) (h : l.length = k) : List.foldl (fun cs x => cs.setIfInBounds x.snd x.fst) (Array.map (fun x => zc[x % zc.size]!) (Array.range k)) l.zipIdx = l.toArray := by
  apply Array.ext'
  have := fill_one (fun _ => default) l (Array.map (fun x => zc[x % zc.size]!) (Array.range k)) 0 (by simp [h])
  rw [this]; simp
/-- Behind a run of exchanges in a row of the call's own. -/
theorem own_back {w w1 w2 : World} {g cap : Nat} {cur : Array Value} {d1 dj : Array Cel} (hb : Below w.heap.size w w1) (hg : w.heap.size ≤ g) (hh : w1.heap[g]? = some (.cells cur 40 (0, 0))) (hnc : d1.size ≤ cap) (hcm : cap ≤ maxLen) (hcs : cur.size = cap * 9) (hz : dj.size = d1.size)
    (S : SWK Cel.enc 9 w1 g 0 dj w2) : Kd.R kCel 40 w2 w.heap.size (fun _ => True) (.slice (some ⟨g, 0, none⟩) d1.size cap) dj.toList ∧ Below w.heap.size w w2 := by
  obtain ⟨n, os, rfl⟩ := S
  obtain ⟨cur', hk1, hk2, hk3⟩ := sorted_block hh n dj os (by rw [size_flatK, hz, hcs]; exact Nat.mul_le_mul_right _ hnc)
  refine ⟨⟨fun _ _ => trivial, (flatK Cel.enc 9 dj).toList, ?_, flat_reps dj⟩, sorted_below hb hg n dj os⟩
  rw [Array.length_toList, hz]
  refine ⟨by simp [hz]; rfl, Or.inr ⟨g, cap, cur', rfl, hg, hk1, hnc, hcm, by rw [hk2]; exact hcs, ?_⟩⟩
  rw [← hk3, size_flatK, hz]
  simp [kCel]
set_option maxHeartbeats 8000000 in
set_option maxRecDepth 1000000 in
theorem rorder_v {P : Program} {k : Nat} (B : Bas P k) (F23 : P.funcs[14]? = some Tryd.f14) (e28 : ∀ args w, (callFunc 33 args).run P w = .ok (.enter 33 args) w) (HK9 : Hid (k = 9))
    (hinfo : (P.info? 40).map (fun i => (i.zero, i.size, i.bytes)) = some (some zed, 9, 136))
    (zc : Array Value) (v32 : ∀ w, (zeroValue 40).run P w = .ok (.agg zc) w)
    (hah : ∀ (x y : Cel) (W : World), Calls P 33 #[.agg x.enc.toArray, .agg y.enc.toArray] W fun e w' => e = .returned (.bool (ltOf cmpCel x y)) ∧ Grn W w')
    (A : Option Addr) (cc : Nat) (cs : List Cel) (w : World) (hr : Kd.C kCel w A cs.length cs) (hl : cs.length ≤ 1034834473200) :
    Calls P 14 #[.slice A cs.length cc] w fun e w' => ∃ v' : Value, e = .returned v' ∧ Kd.R kCel 40 w' w.heap.size (fun _ => True) v' (isort (ltOf cmpCel) cs) ∧ Below w.heap.size w w' := by
  have mixed := B.mixed; have t0 := B.t0; have a0 := B.a0; have z0 := B.z0; have v0 := B.v0; have t3 := B.t3; have a3 := B.a3; have z3 := B.z3; have v3 := B.v3; have t4 := B.t4; have a4 := B.a4; have z4 := B.z4; have v4 := B.v4; have t24 := B.t24; have a24 := B.a24; have z24 := B.z24; have v24 := B.v24; have aE := B.aE; have zE := B.zE
  have u24 := run_underlying B.t24
  have HR := Lib.hid hr
  have HA := Lib.hid hah
  have HI := Lib.hid hinfo
  clear hr hah hinfo
  obtain ⟨n, hn⟩ : ∃ n, n = cs.length := ⟨_, rfl⟩
  rw [← hn] at hl ⊢
  have HN := Lib.hid hn
  clear hn
  go_enter F23, Tryd.ntmps14
  go_wp2_with fail
  go_loopg [3, 4, 5] n (fun kx s3 s4 s5 wr => ∃ i : Nat, s4 = .int .i64 i ∧ i ≤ n ∧ n - i ≤ kx ∧ Hid (Kd.R kCel 40 wr w.heap.size (fun _ => True) s3 (isort (ltOf cmpCel) (cs.take i)) ∧ Below w.heap.size w wr))
  case atStart => exact ⟨0, rfl, Nat.zero_le _, Nat.le_refl _, ⟨Kd.R_nil _ _ _ _ _, Below.refl _ _⟩⟩
  case round =>
    obtain ⟨i, rfl, hin, hkx, HW⟩ := hrel
    by_cases hlt : (i : Int) < (n : Int)
    · have hC : Kd.C kCel wr A cs.length cs := Kd.C_below HR.out HW.out.2
      have hi2 : i < cs.length := by have := HN.out; omega
      obtain ⟨ad, rfl, hcells⟩ := hC.2.2 (by omega)
      obtain ⟨c, hc1, hc2, hc3⟩ := hcells i cs[i] (List.getElem?_eq_getElem hi2)
      obtain ⟨x, hx⟩ : ∃ x, x = cs[i] := ⟨_, rfl⟩
      rw [← hx] at hc2
      have hc2 : c = x.enc := hc2
      subst hc2
      have hld : Sem.run P (loadCellsFrom (ad.add (i * k)) 0 k #[]) wr = .ok (x.enc).toArray wr := by
        rw [HK9.out]
        refine run_loadCellsFrom_list P wr _ _ 9 (Cel.len x) (fun j v hj => ?_)
        rw [Addr.add_add]
        exact hc3 j v hj
      have HX : Hid (cs[i]? = some x) := by show _ = _; rw [hx]; exact List.getElem?_eq_getElem hi2
      clear hC hcells hc1 hc3 hx hi2
      have k1 : ¬ 16777216 < k := by have := HK9.out; omega
      have k2 : ¬ k = 0 := by have := HK9.out; omega
      have k3 : x.enc.length = k := by rw [HK9.out]; rfl
      have K4 := Lib.hid (fill_all zc x.enc k k3)
      have LN : Hid (((isort (ltOf cmpCel) (cs.take i)).length + 1) * 136 ≤ 140737488355328) := by show _ ≤ _; rw [isort_len, List.length_take]; omega
      have p1 : (0 : Int) ≤ (i : Int) := by omega
      have e1 : ((i : Int)).toNat = i := by omega
      go_wp2_with (at_builtin; rw [K4.out]; refine Kd.R_append kCel (W := wr) w.heap.size ?g1 ?s1 ?s2 22 40 zed 136 ?g2 t24 HI.out ?g5 ?g6 ?g7 u3 (isort (ltOf cmpCel) (cs.take i)) x x.enc (fun _ => True) (fun _ => False) ?g3 ?g4 ?g8 (fun _ h => h.elim) (fun _ _ => trivial) HW.out.1 HW.out.2 HW.out.2.size LN.out ?gg; (case g1 => rfl); (case g2 => rfl); (case g3 => rfl); (case g4 => rfl); (case g5 => rfl); (case g6 => decide); (case g7 => decide); (case g8 => rfl))
      intro v1 w1 hr hb hgr hat
      obtain ⟨_, inner, hown, hrep⟩ := hr
      have hl1 : (isort (ltOf cmpCel) (cs.take i) ++ [x]).length = i + 1 := by rw [List.length_append, isort_len, List.length_take, ← HN.out]; simp; omega
      rcases hown.2 with ⟨_, hbad⟩ | ⟨g, cap, cur, rfl, hg, hh, hnc, hcm, hcs, htk⟩
      · omega
      obtain ⟨d1, hd1⟩ : ∃ d : Array Cel, d.toList = isort (ltOf cmpCel) (cs.take i) ++ [x] := ⟨⟨_⟩, rfl⟩
      have hz1 : d1.size = i + 1 := by rw [← Array.length_toList, hd1, hl1]
      have hgl : g < w1.heap.size := by
        rcases Nat.lt_or_ge g w1.heap.size with h1 | h1
        · exact h1
        · rw [Array.getElem?_eq_none h1] at hh; cases hh
      have hfl : inner = (flatK Cel.enc 9 d1).toList := reps_inj (f := Cel.enc) hrep (by have := flat_reps d1; rw [hd1] at this; exact this)
      have hHd : HoldsK Cel.enc 9 w1 g 0 d1 := holds_of hh d1 (by rw [size_flatK, hz1, ← hl1]; rw [hcs]; exact Nat.mul_le_mul_right _ hnc) (by rw [size_flatK, hz1, ← hl1]; exact htk.trans hfl)
      have RK : Hid (RowK Cel.enc k w1 g 0 d1) := by rw [HK9.out]; exact ⟨Cel.len, Cel.h1, hHd, hgl⟩
      have S0 : Aside (SWK Cel.enc k w1 g 0 d1 w1) := SWK.start RK.out.hH
      have HX2 : Hid (Below w.heap.size w w1 ∧ w.heap.size ≤ g ∧ w1.heap[g]? = some (.cells cur 40 (0, 0)) ∧ d1.size ≤ cap ∧ cap ≤ maxLen ∧ cur.size = cap * 9 ∧ d1.toList = isort (ltOf cmpCel) (cs.take i) ++ [x] ∧ d1.size = i + 1) := ⟨hb, hg, hh, by rw [hz1, ← hl1]; exact hnc, hcm, hcs, hd1, hz1⟩
      rw [hl1]
      have ci : i + 1 ≤ cap := by rw [← hl1]; exact hnc
      clear hb hgr hat hown hrep hl1 hg hh hnc hcm hcs htk hd1 hz1 hfl hHd HW LN K4 hld
      go_wp2_with fail
      go_loopg [5] i (fun kx s5 w2 => ∃ (j : Nat) (dj : Array Cel), s5 = .int .i64 j ∧ j ≤ i ∧ j ≤ kx ∧ dj.size = d1.size ∧ Aside (SWK Cel.enc k w1 g 0 dj w2) ∧ Hid (insInner (ltOf cmpCel) 0 j dj = insInner (ltOf cmpCel) 0 i d1))
      case atStart => exact ⟨i, d1, by go_num, Nat.le_refl _, Nat.le_refl _, rfl, S0, rfl⟩
      case round =>
        clear S0
        obtain ⟨j, dj, rfl, hji, hkx2, hsj, S1, HJ⟩ := hrel
        have out : (j ≤ 0 ∨ ltOf cmpCel dj[j]! dj[j - 1]! = false) → Hid (dj.toList = isort (ltOf cmpCel) (cs.take (i + 1))) := fun hs => by
          have h0 := HJ.out
          rw [insInner_stop _ _ _ _ hs] at h0
          have hl := insInner_list swoCel [] [] x i d1 (isort (ltOf cmpCel) (cs.take i)) [] (by rw [isort_len, List.length_take, ← HN.out]; omega) (isort_srt swoCel _) (by rw [HX2.out.2.2.2.2.2.2.1]; simp)
          rw [List.length_nil, Nat.zero_add] at hl
          show _ = _
          rw [h0, hl, List.take_add_one, HX.out, Option.toList_some, isort_snoc]
          simp
        have OUT : Aside _ := out
        clear out
        by_cases hj0 : 0 < j
        · obtain ⟨jp, rfl⟩ : ∃ jp, j = jp + 1 := ⟨j - 1, by omega⟩
          have hjz : (0 : Int) < (jp : Int) + 1 := by omega
          have hwp : IntKind.i64.wrap (jp : Int) = (jp : Int) := by rw [IntKind.wrap_i64]; omega
          have jz : (jp : Int) + 1 < (i : Int) + 1 := by omega
          have jz1 : (jp : Int) < (i : Int) + 1 := by omega
          have p0 : (0 : Int) ≤ (jp : Int) + 1 := by omega
          have e0 : ((jp : Int) + 1).toNat = jp + 1 := by omega
          have hzz := HX2.out.2.2.2.2.2.2.2
          obtain ⟨xj, hxj⟩ : ∃ x, x = dj[jp + 1]! := ⟨_, rfl⟩
          obtain ⟨xp, hxp⟩ : ∃ x, x = dj[jp]! := ⟨_, rfl⟩
          have la := S1.out.ld RK.out (by omega) P (jp + 1) (by omega)
          have lb := S1.out.ld RK.out (by omega) P jp (by omega)
          rw [← hxj] at la
          rw [← hxp] at lb
          simp only [Nat.zero_add] at la lb
          have hc : ∀ n os, Calls P 33 #[.agg xj.enc.toArray, .agg xp.enc.toArray] (grow (wr.drewN n) os) fun e w' => e = .returned (.bool (ltOf cmpCel xj xp)) ∧ ∃ q os', w' = grow ((grow (wr.drewN n) os).drewN q) os' := fun n os => HA.out xj xp _
          cases hv : ltOf cmpCel xj xp with
          | true =>
            have HV : Hid (ltOf cmpCel dj[jp + 1]! dj[jp]! = true) := by show _ = _; rw [← hxj, ← hxp]; exact hv
            rw [hv] at hc
            clear hv hxj hxp hzz OUT
            go_wp2_with fail
            go_quiet_grown (first | (go_at_fn 33; refine Calls.grown_of (hc _ _)))
            have S2 : Aside (SWK Cel.enc k w1 g 0 dj (grow (wr.drewN nq) osq)) := S1.out.grown nq osq
            clear la lb hc S1
            generalize grow (wr.drewN nq) osq = wu at S2 ⊢
            clear nq osq
            have hzz := HX2.out.2.2.2.2.2.2.2
            have S3 : Aside (SWK Cel.enc k w1 g 0 (swp dj (jp + 1) jp) ((wu.drew.setCells g (0 + (jp + 1) * k) (Cel.enc dj[jp]!)).setCells g (0 + jp * k) (Cel.enc dj[jp + 1]!))) := S2.out.swapped RK.out (jp + 1) jp (by omega) (by omega)
            have l44a := S2.out.ld1 RK.out (by omega) P (jp + 1) (by omega)
            have l44b := S2.out.ld1 RK.out (by omega) P jp (by omega)
            have s44a := S2.out.st1 RK.out (by omega) P (jp + 1) (by omega) dj[jp]!
            have s44b := S2.out.st2 RK.out (by omega) P (jp + 1) jp (by omega) (by omega) dj[jp]! dj[jp + 1]!
            have n44a : (Cel.enc dj[jp + 1]!).length = k := RK.out.hk _
            have n44b : (Cel.enc dj[jp]!).length = k := RK.out.hk _
            clear hzz
            generalize Cel.enc dj[jp + 1]! = cI44 at S3 l44a s44b n44a
            generalize Cel.enc dj[jp]! = cJ44 at S3 l44b s44a s44b n44b
            clear S2
            simp only [Nat.zero_add] at l44a l44b s44a s44b S3
            go_wp2_with fail
            go_big_region_o
            clear l44a l44b s44a s44b
            generalize (wu.drew.setCells g ((jp + 1) * k) cJ44).setCells g (jp * k) cI44 = w3 at S3 ⊢
            go_wp2_with fail
            go_roundg jp
            case measure => omega
            case rel => exact ⟨jp, swp dj (jp + 1) jp, by go_num, by omega, Nat.le_refl _, by rw [size_swp]; exact hsj, S3, by
              have := insInner_go (ltOf cmpCel) 0 (jp + 1) dj (by omega) (by simp only [Nat.add_sub_cancel]; exact HV.out)
              simp only [Nat.add_sub_cancel] at this
              show _ = _
              rw [← this]; exact HJ.out⟩
          | false =>
            have HL := OUT.out (Or.inr (by simp only [Nat.add_sub_cancel]; rw [← hxj, ← hxp]; exact hv))
            rw [hv] at hc
            clear hv hxj hxp hzz OUT
            go_wp2_with fail
            go_quiet_grown (first | (go_at_fn 33; refine Calls.grown_of (hc _ _)))
            have S2 : Aside (SWK Cel.enc k w1 g 0 dj (grow (wr.drewN nq) osq)) := S1.out.grown nq osq
            clear la lb hc S1
            generalize grow (wr.drewN nq) osq = wu at S2 ⊢
            clear nq osq
            have HE : Hid (Kd.R kCel 40 wu w.heap.size (fun _ => True) (.slice (some ⟨g, 0, none⟩) (i + 1) cap) (isort (ltOf cmpCel) (cs.take (i + 1))) ∧ Below w.heap.size w wu) := by
              have S3 := S2.out
              rw [HK9.out] at S3
              obtain ⟨x1, x2, x3, x4, x5, x6, x7, x8⟩ := HX2.out
              have h := own_back x1 x2 x3 x4 x5 x6 hsj S3
              rw [HL.out, x8] at h
              exact h
            clear S2
            go_wp2_with fail
            go_roundg (n - (i + 1))
            case measure => omega
            case rel => exact ⟨i + 1, by go_num, by omega, Nat.le_refl _, HE.out⟩
        · have hjz : ¬ (0 : Int) < (j : Int) := by omega
          have hjz2 : decide ((j : Int) > 0) = false := decide_eq_false (by omega)
          have HL := OUT.out (Or.inl (by omega))
          clear OUT
          have HE : Hid (∀ m, Kd.R kCel 40 (wr.drewN m) w.heap.size (fun _ => True) (.slice (some ⟨g, 0, none⟩) (i + 1) cap) (isort (ltOf cmpCel) (cs.take (i + 1))) ∧ Below w.heap.size w (wr.drewN m)) := by
            intro m
            have S3 := S1.out.drewN m
            rw [HK9.out] at S3
            obtain ⟨x1, x2, x3, x4, x5, x6, x7, x8⟩ := HX2.out
            have h := own_back x1 x2 x3 x4 x5 x6 hsj S3
            rw [HL.out, x8] at h
            exact h
          clear S1
          go_wp2_with fail
          go_big_region_o
          all_goals go_wp2_with fail
          go_roundg (n - (i + 1))
          case measure => omega
          case rel => exact ⟨i + 1, by go_num, by omega, Nat.le_refl _, HE.out 1⟩
    · go_wp2_with fail
      go_ret
      have hin2 : cs.take i = cs := List.take_of_length_le (by rw [← HN.out]; omega)
      have h1 := HW.out.1
      rw [hin2] at h1
      exact ⟨_, rfl, h1, HW.out.2⟩
end Go.Proofs.YtjbckpoepfbgbaaDoor.Srt
end
section
/- How many pages there are, and a page's links: what the program and the document's answer tell, both alike. -/
set_option linter.unusedVariables false
set_option maxRecDepth 20000
namespace Go.Proofs.YtjbckpoepfbgbaaDoor.Lnk
open Go.RowKit Go.Proofs.YtjbckpoepfbgbaaDoor.Pr Go.Proofs.YtjbckpoepfbgbaaDoorW.PrintWords
/-- The last page. -/
def lastP (n s : Int) : Int := if n = 0 then 1 else (n - 1) / s + 1
def Bad (n s : Int) : Prop := n < 0 ∨ s < 1 ∨ 100 < s
def Fit (n s : Int) : Prop := 0 ≤ n ∧ n ≤ 9223372036854775807 ∧ 1 ≤ s ∧ s ≤ 100
theorem lastP_bd {n s : Int} (h : Fit n s) : 1 ≤ lastP n s ∧ lastP n s ≤ 9223372036854775807 := by
  obtain ⟨h1, h2, h3, h4⟩ := h
  unfold lastP
  split
  · omega
  · have a := Int.ediv_le_self (a := n - 1) s (by omega)
    have b : 0 ≤ (n - 1) / s := Int.ediv_nonneg (by omega) (by omega)
    omega
theorem count_bad {n s : Int} (h : Bad n s) : paging_Count.f n s = some (0, 1) := by
  unfold paging_Count.f
  unfold Bad at h
  by_cases h1 : n < 0
  · rw [if_pos h1]
  · rw [if_neg h1]
    by_cases h2 : s < 1
    · rw [if_pos h2]
    · rw [if_neg h2, if_pos (by omega)]
theorem wrap_id {x : Int} (h1 : -9223372036854775808 ≤ x) (h2 : x ≤ 9223372036854775807) : wrap64 x = x := by unfold wrap64; omega
theorem count_fit {n s : Int} (h : Fit n s) : paging_Count.f n s = some (lastP n s, 0) := by
  have hb := lastP_bd h
  obtain ⟨h1, h2, h3, h4⟩ := h
  unfold paging_Count.f
  rw [if_neg (by omega), if_neg (by omega), if_neg (by omega), if_neg (by omega)]
  have hm : wrap64 (mx n 1 - 1) = if n = 0 then 0 else n - 1 := by
    unfold mx wrap64
    split <;> split <;> omega
  rw [hm]
  unfold lastP at hb ⊢
  by_cases h0 : n = 0
  · rw [if_pos h0, if_pos h0]; simp [wrap64]
  · rw [if_neg h0] at hb
    rw [if_neg h0, if_neg h0]
    rw [Int.tdiv_eq_ediv_of_nonneg (by omega), wrap_id (x := (n - 1) / s) (by omega) (by omega), wrap_id (by omega) (by omega)]
theorem countB {n s : Int} (w : World) (h : Bad n s) : Calls Tryd.prog 40 #[.int .i64 n, .int .i64 s] w fun e w' => e = .returned (.tuple #[.int .i64 0, .int .i64 1]) ∧ Below w.heap.size w w' := paging_Count.calls n s 0 1 w (count_bad h)
theorem countF {n s : Int} (w : World) (h : Fit n s) : Calls Tryd.prog 40 #[.int .i64 n, .int .i64 s] w fun e w' => e = .returned (.tuple #[.int .i64 (lastP n s), .int .i64 0]) ∧ Below w.heap.size w w' := paging_Count.calls n s _ 0 w (count_fit h)
def four (a b c d : Int) : Value := .agg #[.int .i64 a, .int .i64 b, .int .i64 c, .int .i64 d]
theorem blk_cell {w : World} {g : Nat} {cs : Array Value} {T : TypeId} (h : w.heap[g]? = some (.cells cs T (0, 0))) (j : Nat) (v : Value) (hv : cs[j]? = some v) : w.cell? ⟨g, j, none⟩ = some v ∧ w.frozen? ⟨g, j, none⟩ = false := by
  constructor
  · simp [World.cell?, h, hv]
  · simp [World.frozen?, h]
theorem new_blk (w : World) (o : Obj) (w1 : World) (hb : Below (w.alloc o).heap.size (w.alloc o) w1) : w1.heap[w.heap.size]? = some o ∧ w.heap.size < w1.heap.size := by
  have h1 : (w.alloc o).heap[w.heap.size]? = some o := by
    show (w.heap.push o)[w.heap.size]? = some o
    simp
  have h2 : (w.alloc o).heap.size = w.heap.size + 1 := by simp
  exact ⟨(hb.block _ (by omega)).trans h1, by have := hb.size; omega⟩
/-- A page's links, as the program and the document's answer tell them: last p the last page. -/
def nextP (n s k : Int) : Int := if k = lastP n s then 0 else k + 1
set_option maxHeartbeats 1000000 in
theorem linksB {n s : Int} (k : Int) (w : World) (h : Bad n s) : Calls Tryd.prog 25 #[.int .i64 n, .int .i64 s, .int .i64 k] w fun e w' => e = .returned (.tuple #[four 0 0 0 0, .int .i64 1]) ∧ Below w.heap.size w w' := by
  have C1 := countB (w.alloc (.cells #[.int .i64 0, .int .i64 0, .int .i64 0, .int .i64 0] 55)) h
  go_enter Tryd.func25, Tryd.ntmps25
  go_wp2_with fail
  refine C1.mono ?_
  clear C1
  rintro e w1 ⟨rfl, hb⟩
  have hn := new_blk _ _ _ hb
  have c0 := blk_cell hn.1 0 (.int .i64 0) rfl
  have c1 := blk_cell hn.1 1 (.int .i64 0) rfl
  have c2 := blk_cell hn.1 2 (.int .i64 0) rfl
  have c3 := blk_cell hn.1 3 (.int .i64 0) rfl
  have hs := hn.2
  have HB : Hid (Below w.heap.size w w1) := ((Below.refl _ _).alloc (Nat.le_refl _) _).trans (hb.mono (by simp))
  have HN := Lib.hid hn.1
  clear hb hn
  go_wp2_with fail
  refine bodyPost_ret (v := .tuple #[four 0 0 0 0, .int .i64 1]) (by simp [results, Tryd.results25, go_sem, c0, c1, c2, c3, four]) rfl ⟨rfl, ?_⟩
  exact (((HB.out.setCell (by simp) _).setCell (by simp) _).setCell (by simp) _).setCell (by simp) _
set_option maxHeartbeats 1000000 in
theorem linksN_1 {n s : Int} (k : Int) (w : World) (h : Fit n s) (h2 : k < 1) : Calls Tryd.prog 25 #[.int .i64 n, .int .i64 s, .int .i64 k] w fun e w' => e = .returned (.tuple #[four 0 0 0 0, .int .i64 10]) ∧ Below w.heap.size w w' := by
  have C1 := countF (w.alloc (.cells #[.int .i64 0, .int .i64 0, .int .i64 0, .int .i64 0] 55)) h
  go_enter Tryd.func25, Tryd.ntmps25
  go_wp2_with fail
  refine C1.mono ?_
  clear C1
  rintro e w1 ⟨rfl, hb⟩
  have hn := new_blk _ _ _ hb
  have c0 := blk_cell hn.1 0 (.int .i64 0) rfl
  have c1 := blk_cell hn.1 1 (.int .i64 0) rfl
  have c2 := blk_cell hn.1 2 (.int .i64 0) rfl
  have c3 := blk_cell hn.1 3 (.int .i64 0) rfl
  have hs := hn.2
  have HB : Hid (Below w.heap.size w w1) := ((Below.refl _ _).alloc (Nat.le_refl _) _).trans (hb.mono (by simp))
  have HN := Lib.hid hn.1
  clear hb hn
  go_wp2_with fail
  refine bodyPost_ret (v := .tuple #[four 0 0 0 0, .int .i64 10]) (by simp [results, Tryd.results25, go_sem, c0, c1, c2, c3, four]) rfl ⟨rfl, ?_⟩
  exact (((HB.out.setCell (by simp) _).setCell (by simp) _).setCell (by simp) _).setCell (by simp) _
set_option maxHeartbeats 1000000 in
theorem linksN_2 {n s : Int} (k : Int) (w : World) (h : Fit n s) (h3 : 1 ≤ k) (h2 : lastP n s < k) : Calls Tryd.prog 25 #[.int .i64 n, .int .i64 s, .int .i64 k] w fun e w' => e = .returned (.tuple #[four 0 0 0 0, .int .i64 10]) ∧ Below w.heap.size w w' := by
  have C1 := countF (w.alloc (.cells #[.int .i64 0, .int .i64 0, .int .i64 0, .int .i64 0] 55)) h
  have hl := lastP_bd h
  clear h
  generalize lastP n s = last at *
  go_enter Tryd.func25, Tryd.ntmps25
  go_wp2_with fail
  refine C1.mono ?_
  clear C1
  rintro e w1 ⟨rfl, hb⟩
  have hn := new_blk _ _ _ hb
  have c0 := blk_cell hn.1 0 (.int .i64 0) rfl
  have c1 := blk_cell hn.1 1 (.int .i64 0) rfl
  have c2 := blk_cell hn.1 2 (.int .i64 0) rfl
  have c3 := blk_cell hn.1 3 (.int .i64 0) rfl
  have hs := hn.2
  have HB : Hid (Below w.heap.size w w1) := ((Below.refl _ _).alloc (Nat.le_refl _) _).trans (hb.mono (by simp))
  have HN := Lib.hid hn.1
  clear hb hn
  go_wp2_with fail
  refine bodyPost_ret (v := .tuple #[four 0 0 0 0, .int .i64 10]) (by simp [results, Tryd.results25, go_sem, c0, c1, c2, c3, four]) rfl ⟨rfl, ?_⟩
  exact (((HB.out.setCell (by simp) _).setCell (by simp) _).setCell (by simp) _).setCell (by simp) _
set_option maxHeartbeats 1000000 in
theorem linksO_1 {n s : Int} (k : Int) (w : World) (h : Fit n s) (h2 : 1 ≤ k) (h3 : k < lastP n s) : Calls Tryd.prog 25 #[.int .i64 n, .int .i64 s, .int .i64 k] w fun e w' => e = .returned (.tuple #[four 1 (k - 1) (nextP n s k) (lastP n s), .int .i64 0]) ∧ Below w.heap.size w w' := by
  have C1 := countF (w.alloc (.cells #[.int .i64 0, .int .i64 0, .int .i64 0, .int .i64 0] 55)) h
  have hl := lastP_bd h
  have hN : nextP n s k = k + 1 := by unfold nextP; rw [if_neg (by omega)]
  rw [hN]
  clear h hN
  generalize lastP n s = last at *
  have hz : ¬ wrap64 (last + 1) = 0 := by unfold wrap64; omega
  have hm : (k + 1) % wrap64 (last + 1) = k + 1 := by
    by_cases hx : last + 1 ≤ 9223372036854775807
    · rw [wrap_id (by omega) hx]; exact Int.emod_eq_of_lt (by omega) (by omega)
    · have : wrap64 (last + 1) = -9223372036854775808 := by unfold wrap64; omega
      rw [this, Int.emod_neg]; exact Int.emod_eq_of_lt (by omega) (by omega)
  have HM := Lib.hid hm
  clear hm
  go_enter Tryd.func25, Tryd.ntmps25
  go_wp2_with fail
  refine C1.mono ?_
  clear C1
  rintro e w1 ⟨rfl, hb⟩
  have hn := new_blk _ _ _ hb
  have c0 := blk_cell hn.1 0 (.int .i64 0) rfl
  have c1 := blk_cell hn.1 1 (.int .i64 0) rfl
  have c2 := blk_cell hn.1 2 (.int .i64 0) rfl
  have c3 := blk_cell hn.1 3 (.int .i64 0) rfl
  have hs := hn.2
  have HB : Hid (Below w.heap.size w w1) := ((Below.refl _ _).alloc (Nat.le_refl _) _).trans (hb.mono (by simp))
  have HN := Lib.hid hn.1
  clear hb hn
  go_wp2_with fail
  have hm := HM.out
  refine bodyPost_ret (v := .tuple #[four 1 (k - 1) (k + 1) last, .int .i64 0]) (by simp [results, Tryd.results25, go_sem, c0, c1, c2, c3, four, hm]) rfl ⟨rfl, ?_⟩
  exact (((HB.out.setCell (by simp) _).setCell (by simp) _).setCell (by simp) _).setCell (by simp) _
set_option maxHeartbeats 1000000 in
theorem linksO_2 {n s : Int} (k : Int) (w : World) (h : Fit n s) (h2 : 1 ≤ k) (h3 : k = lastP n s) : Calls Tryd.prog 25 #[.int .i64 n, .int .i64 s, .int .i64 k] w fun e w' => e = .returned (.tuple #[four 1 (k - 1) (nextP n s k) (lastP n s), .int .i64 0]) ∧ Below w.heap.size w w' := by
  have C1 := countF (w.alloc (.cells #[.int .i64 0, .int .i64 0, .int .i64 0, .int .i64 0] 55)) h
  have hl := lastP_bd h
  have hN : nextP n s k = 0 := by unfold nextP; rw [if_pos h3]
  rw [hN]
  clear h hN
  generalize lastP n s = last at *
  subst h3
  have hz : ¬ wrap64 (k + 1) = 0 := by unfold wrap64; omega
  go_enter Tryd.func25, Tryd.ntmps25
  go_wp2_with fail
  refine C1.mono ?_
  clear C1
  rintro e w1 ⟨rfl, hb⟩
  have hn := new_blk _ _ _ hb
  have c0 := blk_cell hn.1 0 (.int .i64 0) rfl
  have c1 := blk_cell hn.1 1 (.int .i64 0) rfl
  have c2 := blk_cell hn.1 2 (.int .i64 0) rfl
  have c3 := blk_cell hn.1 3 (.int .i64 0) rfl
  have hs := hn.2
  have HB : Hid (Below w.heap.size w w1) := ((Below.refl _ _).alloc (Nat.le_refl _) _).trans (hb.mono (by simp))
  have HN := Lib.hid hn.1
  clear hb hn
  go_wp2_with fail
  refine bodyPost_ret (v := .tuple #[four 1 (k - 1) 0 k, .int .i64 0]) (by simp [results, Tryd.results25, go_sem, c0, c1, c2, c3, four]) rfl ⟨rfl, ?_⟩
  exact (((HB.out.setCell (by simp) _).setCell (by simp) _).setCell (by simp) _).setCell (by simp) _
end Go.Proofs.YtjbckpoepfbgbaaDoor.Lnk
end
section
/- A page of members: what the program and the document's answer tell, both alike. -/
set_option linter.unusedVariables false
set_option maxRecDepth 20000
namespace Go.Proofs.YtjbckpoepfbgbaaDoor.Gv
open Go.RowKit Go.Sort Go.Proofs.YtjbckpoepfbgbaaDoor.Mrg Go.Proofs.YtjbckpoepfbgbaaDoor.Srt Go.Proofs.YtjbckpoepfbgbaaDoor.Lnk Go.Proofs.YtjbckpoepfbgbaaDoor.Pr Go.Proofs.YtjbckpoepfbgbaaDoorW.PrintWords Go.Proofs.YtjbckpoepfbgbaaDoorW.PrintMore
theorem rorder (A : Option Addr) (cc : Nat) (cs : List Cel) (w : World) (hr : Kd.C kCel w A cs.length cs) (hl : cs.length ≤ 1034834473200) :
    Calls Tryd.prog 14 #[.slice A cs.length cc] w fun e w' => ∃ v' : Value, e = .returned v' ∧ Kd.R kCel 40 w' w.heap.size (fun _ => True) v' (isort (ltOf cmpCel) cs) ∧ Below w.heap.size w w' :=
  rorder_v bas Tryd.func14 (enters_of Tryd.func33 (by kernel_rfl) rfl) rfl Srt.info40 _ Tryd.zeroValue40 (fun x y W => Srt.ahead x y W) A cc cs w hr hl
theorem pm_ofK {w : World} (x : S40) (c : List Value) (h : k40.K w x c) : ∃ p : Pm, p.x = x ∧ p.c.enc = c := by
  have h1 := k40.K_one h
  obtain ⟨A6, c6, A7, c7, rfl, _⟩ := k40_open h
  exact ⟨⟨x, ⟨x.f0, x.f1, .string x.f2, .int .i64 x.f3.f0, .string x.f3.f1, .string x.f3.f2, .slice A6 x.f3.f3.length c6, .slice A7 x.f3.f4.length c7, .string x.f3.f5, fun v hv => h1 v (by simp at hv ⊢; exact Or.inr (Or.inr hv))⟩, rfl, rfl⟩, rfl, rfl⟩
/-- Members that are read, each with its cells. -/
theorem reads_cels {w : World} {A : Option Addr} {l0 : List S40} (hC : Kd.C k40 w A l0.length l0) : ∃ Z : List Pm, Z.map (·.x) = l0 ∧ Kd.C kCel w A (Z.map (·.c)).length (Z.map (·.c)) ∧ ∀ z ∈ Z, k40.K w z.x z.c.enc := by
  obtain ⟨news, hnl, hnr, hnf⟩ := Kd.reads_raw hC (fun y c hk => ⟨k40.K_len hk, k40.K_one hk⟩)
  obtain ⟨Z, h1, h2, h3⟩ := pairs_of (fun x c => k40.K w x c) (fun x c h => pm_ofK x c h) l0 news hnl hnf
  subst h1 h2
  refine ⟨Z, rfl, ?_, h3⟩
  have h := cels_read hnr
  rw [List.length_map] at h ⊢
  exact h
theorem cels_members {w : World} {A : Option Addr} {n : Nat} {Z : List Pm} (h : Kd.C kCel w A n (Z.map (·.c))) (h3 : ∀ z ∈ Z, k40.K w z.x z.c.enc) : Kd.C k40 w A n (Z.map (·.x)) := by
  obtain ⟨h1, h2, hc⟩ := h
  refine ⟨by rw [List.length_map] at h1 ⊢; exact h1, h2, fun hn => ?_⟩
  obtain ⟨ad, rfl, hcc⟩ := hc hn
  refine ⟨ad, rfl, fun j p hj => ?_⟩
  rw [List.getElem?_map] at hj
  obtain ⟨z, hz, rfl⟩ := Option.map_eq_some_iff.1 hj
  obtain ⟨c, c1, c2, c3⟩ := hcc j z.c (by rw [List.getElem?_map, hz]; rfl)
  obtain rfl : c = z.c.enc := c2
  exact ⟨z.c.enc, c1, h3 z (List.mem_of_getElem? hz), c3⟩
/-- What both orders come to. -/
def Ordered (w : World) (l0 : List S40) (e : Ending) (w' : World) : Prop := ∃ (A' : Option Addr) (c' : Nat), e = .returned (.slice A' l0.length c') ∧ l0.length ≤ c' ∧ Kd.C k40 w' A' l0.length (isort ltM l0) ∧ Below w.heap.size w w'
theorem ordered_of {w : World} {l0 : List S40} {Z : List Pm} (hZ : Z.map (·.x) = l0) (h3 : ∀ z ∈ Z, k40.K w z.x z.c.enc) (e : Ending) (w' : World)
    (h : ∃ v' : Value, e = .returned v' ∧ Kd.R kCel 40 w' w.heap.size (fun _ => True) v' (isort (ltOf cmpCel) (Z.map (·.c))) ∧ Below w.heap.size w w') : Ordered w l0 e w' := by
  obtain ⟨v', rfl, hR, hb⟩ := h
  obtain ⟨A', c', rfl, hl, hC⟩ := Kd.R_reads hR
  have e1 : isort (ltOf cmpCel) (Z.map (·.c)) = (isort ltP Z).map (·.c) := isort_map (·.c) ltP (ltOf cmpCel) ltP_cel Z
  have e2 : isort ltM l0 = (isort ltP Z).map (·.x) := by rw [← hZ]; exact isort_map (·.x) ltP ltM (fun _ _ => rfl) Z
  have hln : (isort (ltOf cmpCel) (Z.map (·.c))).length = l0.length := by rw [isort_len, List.length_map, ← hZ, List.length_map]
  rw [hln] at hC hl ⊢
  refine ⟨A', c', rfl, hl, ?_, hb⟩
  rw [e1] at hC
  rw [e2]
  exact cels_members hC (fun z hz => k40.K_below hb (h3 z ((isort_mem ltP Z z).1 hz)))
theorem orderC (A : Option Addr) (cc : Nat) (l0 : List S40) (w : World) (hC : Kd.C k40 w A l0.length l0) (hl : l0.length ≤ 1034834473200) : Calls Tryd.prog 35 #[.slice A l0.length cc] w (Ordered w l0) := by
  obtain ⟨Z, hZ, hc, h3⟩ := reads_cels hC
  have hlen : (Z.map (·.c)).length = l0.length := by rw [← hZ]; simp
  have := order A cc (Z.map (·.c)) w hc (by omega)
  rw [hlen] at this
  exact this.mono (ordered_of hZ h3)
theorem rorderC (A : Option Addr) (cc : Nat) (l0 : List S40) (w : World) (hC : Kd.C k40 w A l0.length l0) (hl : l0.length ≤ 1034834473200) : Calls Tryd.prog 14 #[.slice A l0.length cc] w (Ordered w l0) := by
  obtain ⟨Z, hZ, hc, h3⟩ := reads_cels hC
  have hlen : (Z.map (·.c)).length = l0.length := by rw [← hZ]; simp
  have := rorder A cc (Z.map (·.c)) w hc (by omega)
  rw [hlen] at this
  exact this.mono (ordered_of hZ h3)
instance : Inhabited S40 := ⟨z40⟩
/-- A page: from lo on, up to hi. -/
def pageOf (l : List S40) (s k : Int) : List S40 := ((isort ltM l).take (min l.length (k * s).toNat)).drop ((k - 1) * s).toNat
theorem page_bd {n : Nat} {s k : Int} (hF : Fit n s) (h1 : 1 ≤ k) (h2 : k ≤ lastP n s) : 0 ≤ (k - 1) * s ∧ (k - 1) * s ≤ n ∧ k * s ≤ n + 100 ∧ (k - 1) * s ≤ k * s ∧ 0 ≤ k * s := by
  obtain ⟨f1, f2, f3, f4⟩ := hF
  have a1 : 0 ≤ (k - 1) * s := Int.mul_nonneg (by omega) (by omega)
  have a2 : k * s = (k - 1) * s + s := by rw [Int.sub_mul]; omega
  have a3 : (k - 1) * s ≤ n := by
    unfold lastP at h2
    split at h2
    · have : k = 1 := by omega
      subst this; simp
    · have : (k - 1) * s ≤ ((n : Int) - 1) / s * s := Int.mul_le_mul_of_nonneg_right (by omega) (by omega)
      have h4 := Int.ediv_mul_le ((n : Int) - 1) (show s ≠ 0 by omega)
      omega
  omega
/-- What both pages come to. -/
def Paged (w : World) (l0 : List S40) (s k : Int) (e : Ending) (w' : World) : Prop := ∃ (A' : Option Addr) (c' : Nat), e = .returned (.tuple #[.slice A' (pageOf l0 s k).length c', .int .i64 0]) ∧ (pageOf l0 s k).length ≤ c' ∧ Kd.C k40 w' A' (pageOf l0 s k).length (pageOf l0 s k) ∧ Below w.heap.size w w'
attribute [local go_sem] max2_int min2_int max_two min_two
set_option maxHeartbeats 2000000 in
theorem pageO (A : Option Addr) (cc : Nat) (l0 : List S40) (s k : Int) (w : World) (hC : Kd.C k40 w A l0.length l0) (hl : l0.length ≤ 1034834473200) (hF : Fit l0.length s) (h1 : 1 ≤ k) (h2 : k ≤ lastP l0.length s) :
    Calls Tryd.prog 17 #[.slice A l0.length cc, .int .i64 s, .int .i64 k] w (Paged w l0 s k) := by
  have C1 : Calls Tryd.prog 25 #[.int .i64 (l0.length : Int), .int .i64 s, .int .i64 k] w fun e w' => e = .returned (.tuple #[four 1 (k - 1) (nextP l0.length s k) (lastP l0.length s), .int .i64 0]) ∧ Below w.heap.size w w' := by
    by_cases h : k = lastP l0.length s
    · exact linksO_2 k w hF h1 h
    · exact linksO_1 k w hF h1 (by omega)
  have hbd := page_bd hF h1 h2
  have hkb : k ≤ 9223372036854775807 := by have := lastP_bd hF; omega
  generalize nextP l0.length s k = nx at C1
  generalize lastP l0.length s = la at C1 h2
  have HC := Lib.hid hC
  have HF := Lib.hid hF
  clear hC hF
  obtain ⟨n, hn⟩ : ∃ n, n = l0.length := ⟨_, rfl⟩
  rw [← hn] at C1 hl hbd ⊢
  have HN := Lib.hid hn
  clear hn
  unfold four at C1
  go_enter Tryd.func17, Tryd.ntmps17
  go_wp2_with fail
  refine C1.mono ?_
  clear C1
  rintro e w1 ⟨rfl, hb⟩
  have HB := Lib.hid hb
  have hsz := hb.size
  clear hb
  go_wp2_with fail
  have C2 := orderC A cc l0 (w1.alloc (.cells #[.int .i64 1, .int .i64 (k - 1), .int .i64 nx, .int .i64 la] 55)) (Kd.C_below HC.out (HB.out.alloc hsz _)) (by rw [← HN.out]; exact hl)
  rw [← HN.out] at C2
  refine C2.mono ?_
  clear C2
  rintro e w2 ⟨A', c', rfl, hc', hC', hb2⟩
  rw [← HN.out] at hc' hC' ⊢
  obtain ⟨lo, elo⟩ : ∃ lo : Int, (k - 1) * s = lo := ⟨_, rfl⟩
  obtain ⟨hi, ehi⟩ : ∃ hi : Int, k * s = hi := ⟨_, rfl⟩
  rw [elo, ehi] at hbd
  obtain ⟨b1, b2, b3, b4, b5⟩ := hbd
  obtain ⟨i0, hi0, hz0, hz1, hz2⟩ := info_parts Srt.info40
  obtain ⟨A2, hA2⟩ : ∃ A2, A2 = (if c' = lo.toNat then A' else A'.map (·.add (lo.toNat * 9))) := ⟨_, rfl⟩
  have HE : Hid (∀ m : Nat, m = min n hi.toNat → Paged w l0 s k (.returned (.tuple #[.slice A2 (m - lo.toNat) (c' - lo.toNat), .int .i64 0])) w2) := by
    intro m hm
    have hpl : pageOf l0 s k = ((isort ltM l0).take m).drop lo.toNat := by unfold pageOf; rw [elo, ehi, hm, HN.out]
    have hil : (isort ltM l0).length = n := by rw [isort_len, HN.out]
    have hpn : (pageOf l0 s k).length = m - lo.toNat := by rw [hpl, List.length_drop, List.length_take, hil]; omega
    have hC2 : Kd.C k40 w2 A' (isort ltM l0).length (isort ltM l0) := by rw [hil]; exact hC'
    have hm2 := Kd.C_mid (lo := lo.toNat) (hi := m) (c := c') hC2 (by omega) (by omega) (by omega)
    rw [← hpl] at hm2
    refine ⟨A2, c' - lo.toNat, by rw [hpn], by omega, by rw [hA2]; exact hm2, ?_⟩
    exact (HB.out.alloc hsz _).trans (hb2.mono (by simp; omega))
  have HS : ∀ m : Int, lo ≤ m → m ≤ n → ∀ W : World, (Instr.slice 22 (.slice A' n c') (some (.int .i64 lo)) (some (.int .i64 m)) none).run Tryd.prog W = .ok (.slice A2 (m.toNat - lo.toNat) (c' - lo.toNat)) W := fun m h3 h4 W => by rw [hA2]; exact cut_mid 22 40 .i64 .i64 Tryd.underlying22 hi0 9 hz1 A' n c' lo m b1 h3 h4 hc' W
  have w1a : IntKind.i64.wrap lo = lo := by rw [IntKind.wrap_i64]; omega
  have w1b : IntKind.i64.wrap hi = hi := by rw [IntKind.wrap_i64]; omega
  clear hC' hb2
  by_cases hlt : hi < (n : Int)
  · have hs := HS hi (by omega) (by omega)
    have hE := HE.out hi.toNat (by omega)
    have HE2 := Lib.hid hE
    clear HS HE hE hi0 hz0 hz1 hz2 hA2
    go_wp2_with fail
    go_ret2
    exact HE2.out
  · have hs := HS n (by omega) (by omega)
    have hE := HE.out n (by omega)
    have HE2 := Lib.hid hE
    clear HS HE hE hi0 hz0 hz1 hz2 hA2
    go_wp2_with fail
    go_ret2
    exact HE2.out
set_option maxHeartbeats 1000000 in
theorem pageB (A : Option Addr) (cc : Nat) (l0 : List S40) (s k : Int) (w : World) (hB : Bad l0.length s) :
    Calls Tryd.prog 17 #[.slice A l0.length cc, .int .i64 s, .int .i64 k] w fun e w' => e = .returned (.tuple #[.slice none 0 0, .int .i64 1]) ∧ Below w.heap.size w w' := by
  have C1 := linksB (n := l0.length) k w hB
  unfold four at C1
  go_enter Tryd.func17, Tryd.ntmps17
  go_wp2_with fail
  refine C1.mono ?_
  clear C1
  rintro e w1 ⟨rfl, hb⟩
  have HB := Lib.hid hb
  have hsz := hb.size
  clear hb
  go_wp2_with fail
  go_ret2
  exact ⟨rfl, HB.out.alloc hsz _⟩
set_option maxHeartbeats 1000000 in
theorem pageN1 (A : Option Addr) (cc : Nat) (l0 : List S40) (s k : Int) (w : World) (hF : Fit l0.length s) (h1 : k < 1) :
    Calls Tryd.prog 17 #[.slice A l0.length cc, .int .i64 s, .int .i64 k] w fun e w' => e = .returned (.tuple #[.slice none 0 0, .int .i64 10]) ∧ Below w.heap.size w w' := by
  have C1 := linksN_1 k w hF h1
  unfold four at C1
  go_enter Tryd.func17, Tryd.ntmps17
  go_wp2_with fail
  refine C1.mono ?_
  clear C1
  rintro e w1 ⟨rfl, hb⟩
  have HB := Lib.hid hb
  have hsz := hb.size
  clear hb
  go_wp2_with fail
  go_ret2
  exact ⟨rfl, HB.out.alloc hsz _⟩
set_option maxHeartbeats 1000000 in
theorem pageN2 (A : Option Addr) (cc : Nat) (l0 : List S40) (s k : Int) (w : World) (hF : Fit l0.length s) (h1 : 1 ≤ k) (h2 : lastP l0.length s < k) :
    Calls Tryd.prog 17 #[.slice A l0.length cc, .int .i64 s, .int .i64 k] w fun e w' => e = .returned (.tuple #[.slice none 0 0, .int .i64 10]) ∧ Below w.heap.size w w' := by
  have C1 := linksN_2 k w hF h1 h2
  unfold four at C1
  go_enter Tryd.func17, Tryd.ntmps17
  go_wp2_with fail
  refine C1.mono ?_
  clear C1
  rintro e w1 ⟨rfl, hb⟩
  have HB := Lib.hid hb
  have hsz := hb.size
  clear hb
  go_wp2_with fail
  go_ret2
  exact ⟨rfl, HB.out.alloc hsz _⟩
end Go.Proofs.YtjbckpoepfbgbaaDoor.Gv
end
section
/- feed.Feed: the walk. -/
set_option linter.unusedVariables false
set_option maxRecDepth 20000
namespace Go.Proofs.YtjbckpoepfbgbaaDoor.Fd
open Go.RowKit Go.Lib Go.Proofs.YtjbckpoepfbgbaaDoor.Pr Go.Proofs.YtjbckpoepfbgbaaDoor.Gv Go.Proofs.YtjbckpoepfbgbaaDoor.Lnk Go.Proofs.YtjbckpoepfbgbaaDoor.Mrg Go.Proofs.YtjbckpoepfbgbaaDoor.Srt Go.Proofs.YtjbckpoepfbgbaaDoor.Fun Go.Proofs.YtjbckpoepfbgbaaDoor.Txt Go.Proofs.YtjbckpoepfbgbaaDoorW.PrintWords
theorem elemC (sp nm : ByteArray) (A : Option Addr) (n c : Nat) (w : World) :
    Calls Tryd.prog 20 #[.string sp, .string nm, .slice A n c] w fun e w' => e = .returned (.agg #[.int .i64 0, .string sp, .string nm, .slice none 0 0, .slice A n c, .string ⟨#[]⟩]) ∧ Below w.heap.size w w' := by
  go_enter Tryd.func20, Tryd.ntmps20
  go_wp2
  refine bodyPost_ret (v := .agg #[.int .i64 0, .string sp, .string nm, .slice none 0 0, .slice A n c, .string ⟨#[]⟩]) (by simp [results, Tryd.results20, go_sem]) rfl ⟨rfl, ?_⟩
  exact (Below.refl _ _).alloc (Nat.le_refl _) _
/-- What came in, and what was made since, but for the results' block r. -/
def okM (okl : Nat → Prop) (r : Nat) (k : Nat) : Prop := (okl k ∧ k < r) ∨ r < k
theorem okM_ne {okl : Nat → Prop} {r k : Nat} (h : okM okl r k) : k ≠ r := by rcases h with h | h <;> omega
theorem okM_gt {okl : Nat → Prop} {r k : Nat} (h : r < k) : okM okl r k := Or.inr h
theorem okM_out {okl : Nat → Prop} {r k : Nat} (h : okM okl r k) : okl k ∨ r ≤ k := h.elim (fun h => .inl h.1) (fun h => .inr (Nat.le_of_lt h))
/-- The node that is being built: it lies in block b; its kids are xs, apart from it, and lie in M. -/
structure NSt (base b : Nat) (M : Nat → Prop) (sp nm : ByteArray) (W : World) (v : Value) (xs : List S28) : Prop where
  blk : W.heap[b]? = some (.cells #[.int .i64 0, .string sp, .string nm, .slice none 0 0, v, .string ⟨#[]⟩] 28 (0, 0))
  kids : Kd.N k28 28 W base (fun k => k ≠ b ∧ M k) v xs
  ge : base ≤ b
theorem NSt.below {base b : Nat} {M : Nat → Prop} {sp nm : ByteArray} {W W1 : World} {v : Value} {xs : List S28} (h : NSt base b M sp nm W v xs) (hb : Below W.heap.size W W1) : NSt base b M sp nm W1 v xs := by
  have hlt : b < W.heap.size := by
    rcases Nat.lt_or_ge b W.heap.size with h1 | h1
    · exact h1
    · have := h.blk; rw [Array.getElem?_eq_none h1] at this; cases this
  exact ⟨(hb.block _ hlt).trans h.blk, Kd.N_below h.kids hb, h.ge⟩
theorem NSt.lt {base b : Nat} {M : Nat → Prop} {sp nm : ByteArray} {W : World} {v : Value} {xs : List S28} (h : NSt base b M sp nm W v xs) : b < W.heap.size := by
  rcases Nat.lt_or_ge b W.heap.size with h1 | h1
  · exact h1
  · have := h.blk; rw [Array.getElem?_eq_none h1] at this; cases this
/-- Behind an append of one kid, and its store. -/
theorem NSt.put {base b : Nat} {M : Nat → Prop} {sp nm : ByteArray} {W w1 : World} {v v1 : Value} {xs xs1 : List S28} (h : NSt base b M sp nm W v xs) (hn : Kd.N k28 28 w1 base (fun k => k ≠ b ∧ M k) v1 xs1) (hg : W.grownBy w1 v.ownBlock) :
    NSt base b M sp nm (w1.setCell ⟨b, 4, none⟩ v1) v1 xs1 := by
  have hne : some b ≠ v.ownBlock := fun e => (h.kids.1 b e.symm).1 rfl
  have hb1 : w1.heap[b]? = some (.cells #[.int .i64 0, .string sp, .string nm, .slice none 0 0, v, .string ⟨#[]⟩] 28 (0, 0)) := (hg.block _ h.lt hne).trans h.blk
  refine ⟨blk_put hb1 4 v1 rfl, ?_, h.ge⟩
  exact Kd.N_far (p := ⟨b, 4, none⟩) hn (fun _ hk => hk.1) v1
/-- A literal of nodes, in the world behind it. -/
theorem lit_world {W : World} {base : Nat} {xs : List S28} {inner : List Value} {okp : Nat → Prop} (hrep : Reps (Kd.FK k28 W okp) k28.sz xs inner) (hbase : base ≤ W.heap.size) (hm : xs.length ≤ 9223372036854775807) (hok : ∀ k, okp k → base ≤ k) :
    Kd.N k28 28 (W.alloc (.cells inner.toArray 28)) base (fun k => base ≤ k) (.slice (some ⟨W.heap.size, 0, none⟩) xs.length xs.length) xs := by
  refine Kd.N_made (W := W) (okp := okp) (ok := fun k => base ≤ k) (rows := Kd.chunks k28.sz xs.length inner) ?_ (World.grownBy_alloc W _ none) ⟨W.heap.size, by simp [Value.ownBlock], Nat.le_refl _⟩ (Kd.chunks_length _ _ _) (fun j y c hy hc => by rw [Kd.chunks_get hc]; exact hrep.2 j y hy) (fun k hk => hok k hk) hbase
  have hr2 := Kd.reps_raw hrep (fun y c hk => ⟨k28.K_len (Kd.FK_now hk), k28.K_one (Kd.FK_now hk)⟩)
  refine ⟨fun k hk => ?_, inner, ?_, hr2⟩
  · have : W.heap.size = k := by simpa [Value.ownBlock] using hk
    exact this.symm
  · have h2 := World.ownsRow_lit (base := base) (e := 28) (size := (Kd.raw k28.sz).sz) W inner.toArray xs.length hbase (by simpa [maxLen] using hm) (by have h3 := hr2.1; rw [Kd.chunks_length] at h3; simpa using (show inner.length = xs.length * (Kd.raw k28.sz).sz from h3))
    simpa [Kd.chunks_length] using h2
/-- An array of four texts, read at a place. -/
theorem ix0 (a b c d : ByteArray) (W : World) : (Instr.index 58 (.agg #[.string a, .string b, .string c, .string d]) (.int .i64 0)).run Tryd.prog W = .ok (.string a) W := by
  have hu := Tryd.underlying58
  have h9 : Tryd.prog.cellsOf 9 = 1 := by kernel_rfl
  unfold Instr.index
  go_simp
theorem ix1 (a b c d : ByteArray) (W : World) : (Instr.index 58 (.agg #[.string a, .string b, .string c, .string d]) (.int .i64 1)).run Tryd.prog W = .ok (.string b) W := by
  have hu := Tryd.underlying58
  have h9 : Tryd.prog.cellsOf 9 = 1 := by kernel_rfl
  unfold Instr.index
  go_simp
theorem ix2 (a b c d : ByteArray) (W : World) : (Instr.index 58 (.agg #[.string a, .string b, .string c, .string d]) (.int .i64 2)).run Tryd.prog W = .ok (.string c) W := by
  have hu := Tryd.underlying58
  have h9 : Tryd.prog.cellsOf 9 = 1 := by kernel_rfl
  unfold Instr.index
  go_simp
theorem ix3 (a b c d : ByteArray) (W : World) : (Instr.index 58 (.agg #[.string a, .string b, .string c, .string d]) (.int .i64 3)).run Tryd.prog W = .ok (.string d) W := by
  have hu := Tryd.underlying58
  have h9 : Tryd.prog.cellsOf 9 = 1 := by kernel_rfl
  unfold Instr.index
  go_simp
end Go.Proofs.YtjbckpoepfbgbaaDoor.Fd
end
section
/- Pages, with the blocks that they lie in. -/
set_option linter.unusedVariables false
set_option maxRecDepth 20000
namespace Go.Proofs.YtjbckpoepfbgbaaDoor.Gv
open Go.RowKit Go.Sort Go.Proofs.YtjbckpoepfbgbaaDoor.Mrg Go.Proofs.YtjbckpoepfbgbaaDoor.Srt Go.Proofs.YtjbckpoepfbgbaaDoor.Lnk Go.Proofs.YtjbckpoepfbgbaaDoor.Pr Go.Proofs.YtjbckpoepfbgbaaDoorW.PrintWords Go.Proofs.YtjbckpoepfbgbaaDoorW.PrintMore
theorem reads_celsF {w : World} {okl : Nat → Prop} {A : Option Addr} {l0 : List S40} (hC : Kd.F k40 w okl A l0.length l0) : ∃ Z : List Pm, Z.map (·.x) = l0 ∧ Kd.C kCel w A (Z.map (·.c)).length (Z.map (·.c)) ∧ ∀ z ∈ Z, Kd.FK k40 w okl z.x z.c.enc := by
  obtain ⟨news, hnl, hnr, hnf⟩ := Kd.reads_raw (Kd.F_rows hC) (fun y c hk => ⟨k40.K_len (Kd.FK_now hk), k40.K_one (Kd.FK_now hk)⟩)
  obtain ⟨Z, h1, h2, h3⟩ := pairs_of (fun x c => Kd.FK k40 w okl x c) (fun x c h => pm_ofK x c (Kd.FK_now h)) l0 news hnl hnf
  subst h1 h2
  refine ⟨Z, rfl, ?_, h3⟩
  have h := cels_read hnr
  rw [List.length_map] at h ⊢
  exact h
def OrderedF (w : World) (okl : Nat → Prop) (l0 : List S40) (e : Ending) (w' : World) : Prop := ∃ (A' : Option Addr) (c' : Nat), e = .returned (.slice A' l0.length c') ∧ l0.length ≤ c' ∧ Kd.F k40 w' (fun k => okl k ∨ w.heap.size ≤ k) A' l0.length (isort ltM l0) ∧ Below w.heap.size w w'
theorem orderedF_of {w : World} {okl : Nat → Prop} {l0 : List S40} {Z : List Pm} (hZ : Z.map (·.x) = l0) (h3 : ∀ z ∈ Z, Kd.FK k40 w okl z.x z.c.enc) (e : Ending) (w' : World)
    (h : ∃ v' : Value, e = .returned v' ∧ Kd.R kCel 40 w' w.heap.size (fun _ => True) v' (isort (ltOf cmpCel) (Z.map (·.c))) ∧ Below w.heap.size w w') : OrderedF w okl l0 e w' := by
  obtain ⟨v', rfl, hR, hb⟩ := h
  obtain ⟨A', c', rfl, hl, _⟩ := Kd.R_reads hR
  have e1 : isort (ltOf cmpCel) (Z.map (·.c)) = (isort ltP Z).map (·.c) := isort_map (·.c) ltP (ltOf cmpCel) ltP_cel Z
  have e2 : isort ltM l0 = (isort ltP Z).map (·.x) := by rw [← hZ]; exact isort_map (·.x) ltP ltM (fun _ _ => rfl) Z
  have hln : (isort (ltOf cmpCel) (Z.map (·.c))).length = l0.length := by rw [isort_len, List.length_map, ← hZ, List.length_map]
  have hF : Kd.F kCel w' (fun k => okl k ∨ w.heap.size ≤ k) A' l0.length (isort (ltOf cmpCel) (Z.map (·.c))) := by
    have := Kd.R_F (Kd.R_mono (Kd.R_bound hR) (ok' := fun k => okl k ∨ w.heap.size ≤ k) (fun k hk => Or.inr hk.2.1))
    rw [hln] at this
    exact this
  rw [hln] at hl ⊢
  refine ⟨A', c', rfl, hl, ?_, hb⟩
  rw [e2]
  intro W' hW'
  have h1 := hF W' hW'
  rw [e1] at h1
  refine cels_members h1 (fun z hz => ?_)
  have h2 := Kd.FK_mono (Kd.FK_below (h3 z ((isort_mem ltP Z z).1 hz)) hb) (ok' := fun k => okl k ∨ w.heap.size ≤ k) (fun k hk => Or.inl hk)
  exact h2 W' hW'
theorem orderF (A : Option Addr) (cc : Nat) (l0 : List S40) (w : World) (okl : Nat → Prop) (hC : Kd.F k40 w okl A l0.length l0) (hl : l0.length ≤ 1034834473200) : Calls Tryd.prog 35 #[.slice A l0.length cc] w (OrderedF w okl l0) := by
  obtain ⟨Z, hZ, hc, h3⟩ := reads_celsF hC
  have hlen : (Z.map (·.c)).length = l0.length := by rw [← hZ]; simp
  have := order A cc (Z.map (·.c)) w hc (by omega)
  rw [hlen] at this
  exact this.mono (orderedF_of hZ h3)
def PagedF (w : World) (okl : Nat → Prop) (l0 : List S40) (s k : Int) (e : Ending) (w' : World) : Prop := ∃ (A' : Option Addr) (c' : Nat), e = .returned (.tuple #[.slice A' (pageOf l0 s k).length c', .int .i64 0]) ∧ (pageOf l0 s k).length ≤ c' ∧ Kd.F k40 w' (fun k => okl k ∨ w.heap.size ≤ k) A' (pageOf l0 s k).length (pageOf l0 s k) ∧ Below w.heap.size w w'
attribute [local go_sem] max2_int min2_int max_two min_two
set_option maxHeartbeats 2000000 in
theorem pageOF (A : Option Addr) (cc : Nat) (l0 : List S40) (s k : Int) (w : World) (okl : Nat → Prop) (hC : Kd.F k40 w okl A l0.length l0) (hl : l0.length ≤ 1034834473200) (hF : Fit l0.length s) (h1 : 1 ≤ k) (h2 : k ≤ lastP l0.length s) :
    Calls Tryd.prog 17 #[.slice A l0.length cc, .int .i64 s, .int .i64 k] w (PagedF w okl l0 s k) := by
  have C1 : Calls Tryd.prog 25 #[.int .i64 (l0.length : Int), .int .i64 s, .int .i64 k] w fun e w' => e = .returned (.tuple #[four 1 (k - 1) (nextP l0.length s k) (lastP l0.length s), .int .i64 0]) ∧ Below w.heap.size w w' := by
    by_cases h : k = lastP l0.length s
    · exact linksO_2 k w hF h1 h
    · exact linksO_1 k w hF h1 (by omega)
  have hbd := page_bd hF h1 h2
  have hkb : k ≤ 9223372036854775807 := by have := lastP_bd hF; omega
  generalize nextP l0.length s k = nx at C1
  generalize lastP l0.length s = la at C1 h2
  have HC := Lib.hid hC
  have HF := Lib.hid hF
  clear hC hF
  obtain ⟨n, hn⟩ : ∃ n, n = l0.length := ⟨_, rfl⟩
  rw [← hn] at C1 hl hbd ⊢
  have HN := Lib.hid hn
  clear hn
  unfold four at C1
  go_enter Tryd.func17, Tryd.ntmps17
  go_wp2_with fail
  refine C1.mono ?_
  clear C1
  rintro e w1 ⟨rfl, hb⟩
  have HB := Lib.hid hb
  have hsz := hb.size
  clear hb
  go_wp2_with fail
  have C2 := orderF A cc l0 (w1.alloc (.cells #[.int .i64 1, .int .i64 (k - 1), .int .i64 nx, .int .i64 la] 55)) okl (Kd.F_below HC.out (HB.out.alloc hsz _)) (by rw [← HN.out]; exact hl)
  rw [← HN.out] at C2
  refine C2.mono ?_
  clear C2
  rintro e w2 ⟨A', c', rfl, hc', hC', hb2⟩
  rw [← HN.out] at hc' hC' ⊢
  obtain ⟨lo, elo⟩ : ∃ lo : Int, (k - 1) * s = lo := ⟨_, rfl⟩
  obtain ⟨hi, ehi⟩ : ∃ hi : Int, k * s = hi := ⟨_, rfl⟩
  rw [elo, ehi] at hbd
  obtain ⟨b1, b2, b3, b4, b5⟩ := hbd
  obtain ⟨i0, hi0, hz0, hz1, hz2⟩ := info_parts Srt.info40
  obtain ⟨A2, hA2⟩ : ∃ A2, A2 = (if c' = lo.toNat then A' else A'.map (·.add (lo.toNat * 9))) := ⟨_, rfl⟩
  have HSZ : Hid (w.heap.size ≤ (w1.alloc (.cells #[.int .i64 1, .int .i64 (k - 1), .int .i64 nx, .int .i64 la] 55)).heap.size) := by show _ ≤ _; have := HB.out.size; simp; omega
  have HE : Hid (∀ m : Nat, m = min n hi.toNat → PagedF w okl l0 s k (.returned (.tuple #[.slice A2 (m - lo.toNat) (c' - lo.toNat), .int .i64 0])) w2) := by
    intro m hm
    have hpl : pageOf l0 s k = ((isort ltM l0).take m).drop lo.toNat := by unfold pageOf; rw [elo, ehi, hm, HN.out]
    have hil : (isort ltM l0).length = n := by rw [isort_len, HN.out]
    have hpn : (pageOf l0 s k).length = m - lo.toNat := by rw [hpl, List.length_drop, List.length_take, hil]; omega
    have hm2 : Kd.F k40 w2 (fun k => okl k ∨ w.heap.size ≤ k) (if c' = lo.toNat then A' else A'.map (·.add (lo.toNat * 9))) (((isort ltM l0).take m).drop lo.toNat).length (((isort ltM l0).take m).drop lo.toNat) := Kd.F_mono (Kd.F_imp hC' (fun W' h9 => Kd.C_mid (k := k40) (lo := lo.toNat) (hi := m) (c := c') (by rw [hil]; exact h9) (by omega) (by omega) (by omega))) (fun k_ hk => hk.elim Or.inl (fun h => Or.inr (Nat.le_trans HSZ.out h)))
    rw [← hpl] at hm2
    refine ⟨A2, c' - lo.toNat, by rw [hpn], by omega, by rw [hA2]; exact hm2, ?_⟩
    exact (HB.out.alloc hsz _).trans (hb2.mono (by simp; omega))
  have HS : ∀ m : Int, lo ≤ m → m ≤ n → ∀ W : World, (Instr.slice 22 (.slice A' n c') (some (.int .i64 lo)) (some (.int .i64 m)) none).run Tryd.prog W = .ok (.slice A2 (m.toNat - lo.toNat) (c' - lo.toNat)) W := fun m h3 h4 W => by rw [hA2]; exact cut_mid 22 40 .i64 .i64 Tryd.underlying22 hi0 9 hz1 A' n c' lo m b1 h3 h4 hc' W
  have w1a : IntKind.i64.wrap lo = lo := by rw [IntKind.wrap_i64]; omega
  have w1b : IntKind.i64.wrap hi = hi := by rw [IntKind.wrap_i64]; omega
  clear hC' hb2
  by_cases hlt : hi < (n : Int)
  · have hs := HS hi (by omega) (by omega)
    have hE := HE.out hi.toNat (by omega)
    have HE2 := Lib.hid hE
    clear HS HE hE hi0 hz0 hz1 hz2 hA2
    go_wp2_with fail
    go_ret2
    exact HE2.out
  · have hs := HS n (by omega) (by omega)
    have hE := HE.out n (by omega)
    have HE2 := Lib.hid hE
    clear HS HE hE hi0 hz0 hz1 hz2 hA2
    go_wp2_with fail
    go_ret2
    exact HE2.out
end Go.Proofs.YtjbckpoepfbgbaaDoor.Gv
end
section
/- feed.Feed: the walk. -/
set_option linter.unusedVariables false
set_option linter.unusedSimpArgs false
set_option maxRecDepth 20000
namespace Go.Proofs.YtjbckpoepfbgbaaDoor.Fd
open Go.RowKit Go.Lib Go.Proofs.YtjbckpoepfbgbaaDoor.Pr Go.Proofs.YtjbckpoepfbgbaaDoor.Gv Go.Proofs.YtjbckpoepfbgbaaDoor.Lnk Go.Proofs.YtjbckpoepfbgbaaDoor.Mrg Go.Proofs.YtjbckpoepfbgbaaDoor.Srt Go.Proofs.YtjbckpoepfbgbaaDoor.Fun Go.Proofs.YtjbckpoepfbgbaaDoor.Txt Go.Proofs.YtjbckpoepfbgbaaDoorW.PrintWords Go.Proofs.YtjbckpoepfbgbaaDoorW.PrintLast Go.Proofs.YtjbckpoepfbgbaaDoorW.PrintMore
/-- The links to other pages, as far as the i-th. -/
def linkAt (base : ByteArray) (rel : ByteArray) (x : Int) : List S28 := if 0 < x then [linkN rel (pageB base x)] else []
def linksUp (base : ByteArray) (k nx la : Int) (i : Nat) : List S28 :=
  (([((⟨#[102, 105, 114, 115, 116]⟩ : ByteArray), (1 : Int)), (⟨#[112, 114, 101, 118, 105, 111, 117, 115]⟩, k - 1), (⟨#[110, 101, 120, 116]⟩, nx), (⟨#[108, 97, 115, 116]⟩, la)].take i).map (fun p => linkAt base p.1 p.2)).flatten
theorem blk_far {w : World} {g : Nat} {o : Obj} (h : w.heap[g]? = some o) {p : Addr} {u : Value} (hp : p.block ≠ g) : (w.setCell p u).heap[g]? = some o := (Below.heap_setCell w p u g (fun e => hp e.symm)).trans h
/-- The kids of a feed. -/
def feedK (base title : ByteArray) (l : List S40) (s k at_ : Int) : List S28 :=
  ([elN atomB ⟨#[105, 100]⟩ (⟨#[117, 114, 110, 58, 102, 101, 101, 100, 58]⟩ ++ title), elN atomB ⟨#[116, 105, 116, 108, 101]⟩ title, elN atomB ⟨#[117, 112, 100, 97, 116, 101, 100]⟩ (printT at_ 0), linkN ⟨#[115, 101, 108, 102]⟩ (pageB base k)] ++ linksUp base k (nextP l.length s k) (lastP l.length s) 4) ++ (pageOf l s k).map (·.f3)
theorem lastP_le {n : Nat} {s : Int} (h : Fit n s) (hn : n ≤ 1000000) : 1 ≤ lastP n s ∧ lastP n s ≤ 999999999999 := by
  obtain ⟨h1, h2, h3, h4⟩ := h
  unfold lastP
  split
  · omega
  · have : ((n : Int) - 1) / s ≤ (n : Int) - 1 := Int.ediv_le_self _ (by omega)
    have : 0 ≤ ((n : Int) - 1) / s := Int.ediv_nonneg (by omega) (by omega)
    omega
theorem nextP_bd {n : Nat} {s k : Int} (h : Fit n s) (hn : n ≤ 1000000) (h1 : 1 ≤ k) (h2 : k ≤ lastP n s) : 0 ≤ nextP n s k ∧ nextP n s k ≤ 999999999999 := by
  have := lastP_le h hn
  unfold nextP
  split <;> omega
/-- A member that came in, at a later world: its cells, and its entry's footprint. -/
theorem member_at {w4 W : World} {ok : Nat → Prop} {A : Option Addr} {n : Nat} {ps : List S40} (h : Kd.F k40 w4 ok A n ps) (hb : Below w4.heap.size w4 W) (i : Nat) (h1 : i < n) :
    ∃ ad A6 c6 A7 c7, A = some ad ∧ (∀ j u, ([.int .i64 (rd_T40 ps i).f0, .int .i64 (rd_T40 ps i).f1, .string (rd_T40 ps i).f2, .int .i64 (rd_T40 ps i).f3.f0, .string (rd_T40 ps i).f3.f1, .string (rd_T40 ps i).f3.f2, .slice A6 (rd_T40 ps i).f3.f3.length c6, .slice A7 (rd_T40 ps i).f3.f4.length c7, .string (rd_T40 ps i).f3.f5] : List Value)[j]? = some u → W.cell? (ad.add (i * 9 + j)) = some u) ∧
      (rd_T40 ps i).f3.f3.length ≤ c6 ∧ Kd.F k61 W (fun k => ok k ∧ k < w4.heap.size) A6 (rd_T40 ps i).f3.f3.length (rd_T40 ps i).f3.f3 ∧ (rd_T40 ps i).f3.f4.length ≤ c7 ∧ Kd.F k28 W (fun k => ok k ∧ k < w4.heap.size) A7 (rd_T40 ps i).f3.f4.length (rd_T40 ps i).f3.f4 := by
  obtain ⟨ad, c, rfl, hcl, hK, hcc, _⟩ := Kd.F_get h z40 (i : Int) (by omega) (by omega)
  obtain ⟨A6, c6, A7, c7, rfl, l6, g6, l7, g7⟩ := k40_openF hK
  refine ⟨ad, A6, c6, A7, c7, rfl, fun j u hu => ?_, l6, Kd.F_below (Kd.F_bound g6) hb, l7, Kd.F_below (Kd.F_bound g7) hb⟩
  have h9 := hcc j u hu
  exact (hb.cell (World.block_lt_of_cell? _ _ h9)).trans h9
theorem flatten_le {α : Type} (l : List (List α)) (h : ∀ x ∈ l, x.length ≤ 1) : l.flatten.length ≤ l.length := by
  induction l with
  | nil => simp
  | cons a l ih =>
    have h1 := h a (by simp)
    have h2 := ih (fun x hx => h x (by simp [hx]))
    simp only [List.flatten_cons, List.length_append, List.length_cons]
    omega
theorem linksUp_len (base : ByteArray) (k nx la : Int) (j : Nat) : (linksUp base k nx la j).length ≤ 4 := by
  unfold linksUp
  refine Nat.le_trans (flatten_le _ (fun x hx => ?_)) ?_
  · obtain ⟨p, _, rfl⟩ := List.mem_map.1 hx
    unfold linkAt
    split <;> simp
  · rw [List.length_map, List.length_take]
    exact Nat.min_le_right _ _
/-- The j-th of the links: its name and its number. -/
theorem link_at (base : ByteArray) (k nx la : Int) (j : Nat) (hj : j < 4) (hk : 1 ≤ k) (hk2 : k ≤ 999999999999) (hn : 0 ≤ nx ∧ nx ≤ 999999999999) (hl : 1 ≤ la ∧ la ≤ 999999999999) :
    ∃ (rel : ByteArray) (x : Int), (∀ W : World, (Instr.index 58 (.agg #[.string ⟨#[102, 105, 114, 115, 116]⟩, .string ⟨#[112, 114, 101, 118, 105, 111, 117, 115]⟩, .string ⟨#[110, 101, 120, 116]⟩, .string ⟨#[108, 97, 115, 116]⟩]) (.int .i64 (j : Int))).run Tryd.prog W = .ok (.string rel) W) ∧
      (#[.int .i64 1, .int .i64 (k - 1), .int .i64 nx, .int .i64 la] : Array Value)[j]? = some (.int .i64 x) ∧ linksUp base k nx la (j + 1) = linksUp base k nx la j ++ linkAt base rel x ∧ 0 ≤ x ∧ x ≤ 999999999999 := by
  have h : j = 0 ∨ j = 1 ∨ j = 2 ∨ j = 3 := by omega
  rcases h with rfl | rfl | rfl | rfl
  · exact ⟨_, 1, ix0 _ _ _ _, rfl, by simp [linksUp], by omega, by omega⟩
  · exact ⟨_, k - 1, ix1 _ _ _ _, rfl, by simp [linksUp], by omega, by omega⟩
  · exact ⟨_, nx, ix2 _ _ _ _, rfl, by simp [linksUp], by omega, by omega⟩
  · exact ⟨_, la, ix3 _ _ _ _, rfl, by simp [linksUp], by omega, by omega⟩
set_option maxHeartbeats 4000000 in
theorem feedO (base title : ByteArray) (A : Option Addr) (cc : Nat) (l : List S40) (s k at_ : Int) (w : World) (okl : Nat → Prop) (hC : Kd.F k40 w okl A l.length l) (hcc : l.length ≤ cc) (hl : l.length ≤ 1000000) (hG : LaidW w) (hF : Fit l.length s) (h1 : 1 ≤ k) (h2 : k ≤ lastP l.length s)
    (hk2' : k ≤ 999999999999) (hb : base.size ≤ 140737488351232) (ht : title.size ≤ 140737488351232) (hb0 : (base.toList == ([] : List UInt8)) = false) (ht0 : (title.toList == ([] : List UInt8)) = false) (hat : ∃ q, feed_latest.f q l = some at_) (hR : inR at_ 0) :
    Calls Tryd.prog 8 #[.string base, .string title, .slice A l.length cc, .int .i64 s, .int .i64 k] w fun e w' => ∃ (A4 : Option Addr) (c4 : Nat), e = .returned (.tuple #[.agg #[.int .i64 0, .string atomB, .string ⟨#[102, 101, 101, 100]⟩, .slice none 0 0, .slice A4 (feedK base title l s k at_).length c4, .string ⟨#[]⟩], .int .i64 0]) ∧ Kd.V k28 28 w' w.heap.size (fun k_ => okl k_ ∨ w.heap.size ≤ k_) (.slice A4 (feedK base title l s k at_).length c4) (feedK base title l s k at_) ∧ Below w.heap.size w w' := by
  have HC := Lib.hid hC
  have HF := Lib.hid hF
  have HG := Lib.hid hG
  clear hC hF hG
  go_enter Tryd.func8, Tryd.ntmps8
  go_wp2_with fail
  have C1 := pageOF A cc l s k (w.alloc (.cells #[.int .i64 0, .string ⟨#[]⟩, .string ⟨#[]⟩, .slice none 0 0, .slice none 0 0, .string ⟨#[]⟩] 28)) (fun k => okl k ∧ k < w.heap.size) (Kd.F_below (Kd.F_bound HC.out) ((Below.refl _ _).alloc (Nat.le_refl _) _)) (by omega) HF.out h1 h2
  refine C1.mono ?_
  clear C1
  rintro e w2 ⟨Ap, cp, rfl, hcp, hCp, hb2⟩
  have HB2 : Hid (Below w.heap.size w w2) := ((Below.refl _ _).alloc (Nat.le_refl _) _).trans (hb2.mono (by simp))
  have BK := (new_blk _ _ _ hb2)
  have hCp9 : Kd.F k40 w2 (okM okl w.heap.size) Ap (pageOf l s k).length (pageOf l s k) := Kd.F_mono hCp (fun k_ hk => hk.elim Or.inl (fun h => Or.inr (by simp at h; omega)))
  have HCp := Lib.hid hCp9
  clear hb2 hCp hCp9
  go_wp2_with fail
  obtain ⟨q, hq⟩ := hat
  refine (feed_latest.calls q A cc l at_ w2 (Kd.C_below (Kd.F_now HC.out) HB2.out) hcc hq).mono ?_
  rintro e w3 ⟨rfl, hb3⟩
  have HB3 : Hid (Below w.heap.size w w3) := HB2.out.trans (hb3.mono HB2.out.size)
  have HCp3 := Lib.hid (Kd.F_below HCp.out hb3)
  have BK3 := Lib.hid ((hb3.block _ BK.2).trans BK.1)
  clear hb3 hq BK HB2 HCp
  go_wp2_with fail
  refine (date_Print.calls 1 at_ 0 (printT at_ 0) 0 w3 (HG.out.step HB3.out) (print_ok 1 (by omega) at_ 0 hR)).mono ?_
  rintro e w4 ⟨rfl, hb4⟩
  have HB4 : Hid (Below w.heap.size w w4) := HB3.out.trans (hb4.mono HB3.out.size)
  have HCp4 := Lib.hid (Kd.F_below HCp3.out hb4)
  have BK4 := Lib.hid ((hb4.block _ (by
    rcases Nat.lt_or_ge w.heap.size w3.heap.size with h | h
    · exact h
    · have := BK3.out; rw [Array.getElem?_eq_none h] at this; cases this)).trans BK3.out)
  clear hb4 HB3 HCp3 BK3
  have hb0lt : w.heap.size < w4.heap.size := by
    rcases Nat.lt_or_ge w.heap.size w4.heap.size with h | h
    · exact h
    · have := BK4.out; rw [Array.getElem?_eq_none h] at this; cases this
  have hts : (⟨#[117, 114, 110, 58, 102, 101, 101, 100, 58]⟩ : ByteArray).size + title.size ≤ 9223372036854775807 := by
    have : (⟨#[117, 114, 110, 58, 102, 101, 101, 100, 58]⟩ : ByteArray).size = 9 := rfl
    omega
  obtain ⟨tx, htx⟩ : ∃ tx, tx = printT at_ 0 := ⟨_, rfl⟩
  rw [← htx]
  have HTX := Lib.hid htx
  clear htx
  have hk00 : 0 ≤ k := by omega
  have hk0 := h1
  go_wp2_with fail
  refine (elementC _ _ _ w4).mono ?_
  rintro e w5 ⟨v5, rfl, ⟨p3, p4, rfl, hf5⟩, hb5⟩
  have HF5 := Lib.hid hf5
  have HB5 := Lib.hid hb5
  clear hf5 hb5
  unfold elN
  go_wp2_with fail
  refine (titledC _ w5).mono ?_
  rintro e w6 ⟨v6, rfl, ⟨q3, q4, rfl, hf6⟩, hb6⟩
  have HF6 := Lib.hid hf6
  have HB6 : Hid (Below w4.heap.size w4 w6) := HB5.out.trans (hb6.mono HB5.out.size)
  have HF5' := Lib.hid (Kd.FK_below HF5.out hb6)
  clear hf6 hb6 HF5
  unfold elN
  go_wp2_with fail
  refine (elementC _ _ _ w6).mono ?_
  rintro e w7 ⟨v7, rfl, ⟨r3, r4, rfl, hf7⟩, hb7⟩
  have HF7 := Lib.hid hf7
  have HB7 : Hid (Below w4.heap.size w4 w7) := HB6.out.trans (hb7.mono HB6.out.size)
  have HF5 := Lib.hid (Kd.FK_below HF5'.out hb7)
  have HF6' := Lib.hid (Kd.FK_below HF6.out hb7)
  clear hf7 hb7 HF5' HF6
  unfold elN
  go_wp2_with fail
  refine (pageC base k w7 ((HG.out.step HB4.out).step HB7.out) (by omega) hk00 hk2').mono ?_
  rintro e w8 ⟨rfl, hb8⟩
  have HB8 : Hid (Below w4.heap.size w4 w8) := HB7.out.trans (hb8.mono HB7.out.size)
  have HF5' := Lib.hid (Kd.FK_below HF5.out hb8)
  have HF6 := Lib.hid (Kd.FK_below HF6'.out hb8)
  have HF7' := Lib.hid (Kd.FK_below HF7.out hb8)
  clear hb8 HF5 HF6' HF7
  go_wp2_with fail
  refine (linkC _ _ w8).mono ?_
  rintro e w9 ⟨v9, rfl, ⟨u3, u4, rfl, hf9⟩, hb9⟩
  have HF9 := Lib.hid hf9
  have HB9 : Hid (Below w4.heap.size w4 w9) := HB8.out.trans (hb9.mono HB8.out.size)
  have HF5 := Lib.hid (Kd.FK_below HF5'.out hb9)
  have HF6' := Lib.hid (Kd.FK_below HF6.out hb9)
  have HF7 := Lib.hid (Kd.FK_below HF7'.out hb9)
  have hs5 := HB5.out.size; have hs6 := HB6.out.size; have hs7 := HB7.out.size; have hs8 := HB8.out.size
  have F1 := Lib.hid (Kd.FK_mono HF5.out (fun k_ (hk : w4.heap.size ≤ k_) => hk))
  have F2 := Lib.hid (Kd.FK_mono HF6'.out (ok' := fun k_ => w4.heap.size ≤ k_) (fun k_ (hk : w5.heap.size ≤ k_) => by omega))
  have F3 := Lib.hid (Kd.FK_mono HF7.out (ok' := fun k_ => w4.heap.size ≤ k_) (fun k_ (hk : w6.heap.size ≤ k_) => by omega))
  have F4 := Lib.hid (Kd.FK_mono HF9.out (ok' := fun k_ => w4.heap.size ≤ k_) (fun k_ (hk : w8.heap.size ≤ k_) => by omega))
  clear hf9 hb9 HF5' HF6 HF7' HF5 HF6' HF7 HF9 hs5 hs6 hs7 hs8
  have HN0 := lit_world (W := w9) (base := w4.heap.size) (Reps.c6 F1.out (Reps.c6 F2.out (Reps.c6 F3.out (Reps.c6 F4.out (Reps.none _ _))))) HB9.out.size (by simp) (fun _ h => h)
  have HK0 : Hid (∃ kids : List S28, kids = [elN atomB ⟨#[105, 100]⟩ (⟨#[117, 114, 110, 58, 102, 101, 101, 100, 58]⟩ ++ title), elN atomB ⟨#[116, 105, 116, 108, 101]⟩ title, elN atomB ⟨#[117, 112, 100, 97, 116, 101, 100]⟩ tx, linkN ⟨#[115, 101, 108, 102]⟩ (pageB base k)]) := ⟨_, rfl⟩
  have HN1 := Lib.hid HN0
  clear HN0 F1 F2 F3 F4
  unfold linkN
  go_wp2_with fail
  refine (elemC _ _ _ _ _ _).mono ?_
  rintro e w10 ⟨rfl, hb10⟩
  have HN2 := Lib.hid (Kd.N_below HN1.out hb10)
  have HB10 : Hid (Below w4.heap.size w4 w10) := (HB9.out.alloc HB9.out.size _).trans (hb10.mono (HB9.out.alloc HB9.out.size _).size)
  clear hb10 HN1
  go_wp2_with fail
  obtain ⟨o11, ho11⟩ : ∃ o11, o11 = Obj.cells #[.int .i64 0, .string atomB, .string ⟨#[102, 101, 101, 100]⟩, .slice none 0 0, .slice (some ⟨w9.heap.size, 0, none⟩) 4 4, .string ⟨#[]⟩] 28 := ⟨_, rfl⟩
  have C1 : Calls Tryd.prog 25 #[.int .i64 (l.length : Int), .int .i64 s, .int .i64 k] (w10.alloc o11) fun e w' => e = .returned (.tuple #[four 1 (k - 1) (nextP l.length s k) (lastP l.length s), .int .i64 0]) ∧ Below (w10.alloc o11).heap.size (w10.alloc o11) w' := by
    by_cases h : k = lastP l.length s
    · exact linksO_2 k _ HF.out h1 h
    · exact linksO_1 k _ HF.out h1 (by omega)
  obtain ⟨nx, hnx0⟩ : ∃ nx, nx = nextP l.length s k := ⟨_, rfl⟩
  obtain ⟨la, hla0⟩ : ∃ la, la = lastP l.length s := ⟨_, rfl⟩
  have hnx : 0 ≤ nx ∧ nx ≤ 999999999999 := by rw [hnx0]; exact nextP_bd HF.out hl h1 h2
  have hla : 1 ≤ la ∧ la ≤ 999999999999 := by rw [hla0]; exact lastP_le HF.out hl
  rw [← hnx0, ← hla0] at C1
  rw [← hla0] at h2
  have HNX := Lib.hid hnx0
  have HLA := Lib.hid hla0
  clear hnx0 hla0
  rw [ho11] at C1
  unfold four at C1
  refine C1.mono ?_
  clear C1
  rintro e w11 ⟨rfl, hb11⟩
  have NS : Hid (NSt w4.heap.size w10.heap.size (okM okl w.heap.size) atomB ⟨#[102, 101, 101, 100]⟩ w11 (.slice (some ⟨w9.heap.size, 0, none⟩) 4 4) [elN atomB ⟨#[105, 100]⟩ (⟨#[117, 114, 110, 58, 102, 101, 101, 100, 58]⟩ ++ title), elN atomB ⟨#[116, 105, 116, 108, 101]⟩ title, elN atomB ⟨#[117, 112, 100, 97, 116, 101, 100]⟩ tx, linkN ⟨#[115, 101, 108, 102]⟩ (pageB base k)]) := by
    refine NSt.below ⟨?_, ?_, HB10.out.size⟩ hb11
    · show (w10.heap.push _)[w10.heap.size]? = _
      simp
    · exact Kd.N_mono (Kd.N_below (Kd.N_bound HN2.out) ((Below.refl _ _).alloc (Nat.le_refl _) _)) (fun k_ hk => ⟨by have := hk.2; omega, okM_gt (by have := hk.1; omega)⟩)
  have HB11 : Hid (Below w4.heap.size w4 w11) := (HB10.out.alloc HB10.out.size _).trans (hb11.mono (HB10.out.alloc HB10.out.size _).size)
  clear hb11 ho11 HN2 HK0
  go_wp2_with fail
  generalize hini : [elN atomB ⟨#[105, 100]⟩ (⟨#[117, 114, 110, 58, 102, 101, 101, 100, 58]⟩ ++ title), elN atomB ⟨#[116, 105, 116, 108, 101]⟩ title, elN atomB ⟨#[117, 112, 100, 97, 116, 101, 100]⟩ tx, linkN ⟨#[115, 101, 108, 102]⟩ (pageB base k)] = ini at NS
  have HINI := Lib.hid hini
  clear hini
  go_loopg [75] 4 (fun kx s75 wr => ∃ j : Nat, s75 = .int .i64 (j : Int) ∧ j ≤ 4 ∧ 4 - j ≤ kx ∧ Hid (Below w4.heap.size w4 wr ∧ wr.heap[w11.heap.size]? = some (.cells #[.int .i64 1, .int .i64 (k - 1), .int .i64 nx, .int .i64 la] 55 (0, 0)) ∧ ∃ v, NSt w4.heap.size w10.heap.size (okM okl w.heap.size) atomB ⟨#[102, 101, 101, 100]⟩ wr v (ini ++ linksUp base k nx la j)))
  case atStart =>
    have h0 : ini ++ linksUp base k nx la 0 = ini := by simp [linksUp]
    refine ⟨0, rfl, by omega, by decide, ⟨HB11.out.alloc HB11.out.size _, ?_, (.slice (some ⟨w9.heap.size, 0, none⟩) 4 4), ?_⟩⟩
    · show (w11.heap.push _)[w11.heap.size]? = _
      simp
    · rw [h0]
      exact NS.out.below ((Below.refl _ _).alloc (Nat.le_refl _) _)
  case round =>
    obtain ⟨j, rfl, hj4, hkx, HW⟩ := hrel
    by_cases hlt : j < 4
    · obtain ⟨hw1, hw2, v, hw3⟩ := HW.out
      obtain ⟨rel, x, hix, hcx, hlk, hx0, hx1⟩ := link_at base k nx la j hlt hk0 hk2' hnx hla
      have dx := (Lnk.blk_cell hw2 j _ hcx).1
      have fx := (Lnk.blk_cell hw2 j _ hcx).2
      have HN := Lib.hid hw3
      have HX := Lib.hid hw2
      have HL := Lib.hid hlk
      have hlen0 : (ini ++ linksUp base k nx la j).length ≤ 8 := by rw [← HINI.out]; have := linksUp_len base k nx la j; simp only [List.length_append, List.length_cons, List.length_nil]; omega
      have HCX := Lib.hid hcx
      clear hw1 hw2 hw3 hlk hcx
      have hji : (j : Int) < 4 := by omega
      have hj0 : (0 : Int) ≤ (j : Int) := by omega
      by_cases hxp : 0 < x
      · go_wp2_with fail
        refine start_ (n := 13) (S := fun w' => w'.cell? ⟨w10.heap.size, 4, none⟩ = some v ∧ w'.cell? ⟨w11.heap.size, j, none⟩ = some (.int .i64 x)) (ds := [12]) #[false, false, false, false, false, false, false, false, false, false, false, false, false] (by kernel_rfl) rfl rfl ⟨(Lnk.blk_cell (blk_drew HN.out.blk) 4 v rfl).1, (Lnk.blk_cell (blk_drew HX.out) j _ HCX.out).1⟩ (fun hHeld => ?_)
        refine pure_ (i := 0) (N := some 83) (v := ?_) (a' := ?_) #[true, false, false, false, false, false, false, false, false, false, false, false, false] rfl rfl (by kernel_rfl) (fun _ _ _ h => h) (Or.inl ⟨by rfl, ?_⟩) ?_ ?_
        rotate_left
        · intro w'
          go_simp
          with_reducible rfl
        rotate_left
        · simp only [Act.put, List.setIfInBounds_toArray, List.set_cons_zero, List.set_cons_succ, i64_w, i32_w]
          rfl
        refine pure_ (i := 2) (N := some 85) (v := ?_) (a' := ?_) #[true, false, true, false, false, false, false, false, false, false, false, false, false] rfl rfl (by kernel_rfl) (fun _ _ _ h => h) (Or.inl ⟨by rfl, ?_⟩) ?_ ?_
        rotate_left
        · intro w'
          go_simp
          with_reducible rfl
        rotate_left
        · simp only [Act.put, List.setIfInBounds_toArray, List.set_cons_zero, List.set_cons_succ, i64_w, i32_w]
          rfl
        refine pure_ (i := 3) (N := some 86) (v := ?_) (a' := ?_) #[true, false, true, true, false, false, false, false, false, false, false, false, false] rfl rfl (by kernel_rfl) (fun _ _ _ h => h) (Or.inl ⟨by rfl, ?_⟩) ?_ ?_
        rotate_left
        · intro w'
          go_simp
          with_reducible rfl
        rotate_left
        · simp only [Act.put, List.setIfInBounds_toArray, List.set_cons_zero, List.set_cons_succ, i64_w, i32_w]
          rfl
        refine pure_ (i := 4) (N := some 87) (v := ?_) (a' := ?_) #[true, false, true, true, true, false, false, false, false, false, false, false, false] rfl rfl (by kernel_rfl) (fun _ _ _ h => h) (Or.inl ⟨by rfl, ?_⟩) ?_ ?_
        rotate_left
        · intro w'
          go_simp
          with_reducible rfl
        rotate_left
        · simp only [Act.put, List.setIfInBounds_toArray, List.set_cons_zero, List.set_cons_succ, i64_w, i32_w]
          rfl
        refine pure_ (i := 5) (N := some 88) (v := ?_) (a' := ?_) #[true, false, true, true, true, true, false, false, false, false, false, false, false] rfl rfl (by kernel_rfl) (fun _ _ _ h => h) (Or.inl ⟨by rfl, ?_⟩) ?_ ?_
        rotate_left
        · intro w'
          go_simp
          with_reducible rfl
        rotate_left
        · simp only [Act.put, List.setIfInBounds_toArray, List.set_cons_zero, List.set_cons_succ, i64_w, i32_w]
          rfl
        refine take_ (i := 1) (N := some 84) (v := ?_) (a' := ?_) #[true, true, true, true, true, true, false, false, false, false, false, false, false] rfl rfl (by kernel_rfl) (fun _ _ _ h => h) (Or.inl ⟨by rfl, ?_⟩) hHeld ?_ ?_
        rotate_left
        · rintro w' ⟨s0, s1⟩
          go_simp
          with_reducible rfl
        rotate_left
        · simp only [Act.put, List.setIfInBounds_toArray, List.set_cons_zero, List.set_cons_succ, i64_w, i32_w]
          rfl
        refine take_ (i := 6) (N := some 89) (v := ?_) (a' := ?_) #[true, true, true, true, true, true, true, false, false, false, false, false, false] rfl rfl (by kernel_rfl) (fun _ _ _ h => h) (Or.inl ⟨by rfl, ?_⟩) hHeld ?_ ?_
        rotate_left
        · rintro w' ⟨s0, s1⟩
          go_simp
          with_reducible rfl
        rotate_left
        · simp only [Act.put, List.setIfInBounds_toArray, List.set_cons_zero, List.set_cons_succ, i64_w, i32_w]
          rfl
        refine one_ (i := 7) (N := some 90) #[true, true, true, true, true, true, true, true, false, false, false, false, false] rfl rfl (by kernel_rfl) (by decide) (fun K hK => ?_)
        refine goes_ Tryd.func24 (by kernel_rfl) rfl #[.string base, .int .i64 x] (by rfl) rfl rfl (by (try simp only [List.map_toArray, List.map_cons, List.map_nil]); first | done | rfl) ?_
        refine (pageC base x _ ((HG.out.step HB4.out).step (HW.out.1.trans (pw_below_drewN (Below.refl _ _) 1))) (by omega) hx0 hx1).mono ?_
        rintro e w12 ⟨rfl, hb12⟩
        refine ⟨_, rfl, ?_⟩
        have HN12 := Lib.hid ((HN.out.below (pw_below_drewN (Below.refl _ _) 1)).below hb12)
        have HX12 := Lib.hid ((hb12.block _ (by
          rcases Nat.lt_or_ge w11.heap.size wr.heap.size with h | h
          · exact h
          · have := HX.out; rw [Array.getElem?_eq_none h] at this; cases this)).trans (blk_drew HX.out))
        have HW12 := Lib.hid ((HW.out.1.trans (pw_below_drewN (Below.refl _ _) 1)).trans (hb12.mono (HW.out.1.trans (pw_below_drewN (Below.refl _ _) 1)).size))
        clear hb12
        refine hK.out _ _ ⟨(Lnk.blk_cell HN12.out.blk 4 v rfl).1, (Lnk.blk_cell HX12.out j _ HCX.out).1⟩ (fun hHeld => ?_)
        clear hK K
        refine norm_ (a' := ?_) ?_ ?_
        rotate_left
        · show Act.put _ (some 90) _ = _
          simp only [Act.put, List.setIfInBounds_toArray, List.set_cons_zero, List.set_cons_succ, i64_w, i32_w]
          rfl
        refine one_ (i := 8) (N := some 91) #[true, true, true, true, true, true, true, true, true, false, false, false, false] rfl rfl (by kernel_rfl) (by decide) (fun K hK => ?_)
        refine goes_ Tryd.func23 (by kernel_rfl) rfl #[.string rel, .string (pageB base x)] (by rfl) rfl rfl (by (try simp only [List.map_toArray, List.map_cons, List.map_nil]); first | done | rfl) ?_
        refine (linkC _ _ w12).mono ?_
        rintro e w13 ⟨v13, rfl, ⟨m3, m4, rfl, hf13⟩, hb13⟩
        refine ⟨_, rfl, ?_⟩
        have HN13 := Lib.hid (HN12.out.below hb13)
        have HX13 := Lib.hid ((hb13.block _ (by
          rcases Nat.lt_or_ge w11.heap.size w12.heap.size with h | h
          · exact h
          · have := HX12.out; rw [Array.getElem?_eq_none h] at this; cases this)).trans HX12.out)
        have HW13 := Lib.hid (HW12.out.trans (hb13.mono HW12.out.size))
        have HF13 := Lib.hid hf13
        clear hb13 hf13
        refine hK.out _ _ ⟨(Lnk.blk_cell HN13.out.blk 4 v rfl).1, (Lnk.blk_cell HX13.out j _ HCX.out).1⟩ (fun hHeld => ?_)
        clear hK K
        refine norm_ (a' := ?_) ?_ ?_
        rotate_left
        · show Act.put _ (some 91) _ = _
          simp only [Act.put, List.setIfInBounds_toArray, List.set_cons_zero, List.set_cons_succ, i64_w, i32_w]
          rfl
        refine one_ (i := 9) (N := some 92) #[true, true, true, true, true, true, true, true, true, true, false, false, false] rfl rfl (by kernel_rfl) (by decide) (fun K hK => ?_)
        refine value_ (w1 := ?_) (v := ?_) (by rfl) rfl ?_ ?_
        rotate_left 2
        · go_simp
          constructor
          · rfl
          · rfl
        have HB13 := (Below.refl w13.heap.size w13).alloc (Nat.le_refl _) (Obj.cells #[.int .i64 (linkN rel (pageB base x)).f0, .string (linkN rel (pageB base x)).f1, .string (linkN rel (pageB base x)).f2, m3, m4, .string (linkN rel (pageB base x)).f5] 28)
        refine hK.out _ _ ⟨(Lnk.blk_cell (HN13.out.below HB13).blk 4 v rfl).1, (Lnk.blk_cell ((HB13.block _ (by
          rcases Nat.lt_or_ge w11.heap.size w13.heap.size with h | h
          · exact h
          · have := HX13.out; rw [Array.getElem?_eq_none h] at this; cases this)).trans HX13.out) j _ HCX.out).1⟩ (fun hHeld => ?_)
        clear hK K
        refine norm_ (a' := ?_) ?_ ?_
        rotate_left
        · show Act.put _ (some 92) _ = _
          simp only [Act.put, List.setIfInBounds_toArray, List.set_cons_zero, List.set_cons_succ, i64_w, i32_w]
          rfl
        have hlen : (ini ++ linksUp base k nx la j).length ≤ 8 := hlen0
        have i28 : (Tryd.prog.info? 28).map (fun i => (i.zero, i.size, i.bytes)) = some (some (.agg #[(.int .i64 0), (.string ⟨#[]⟩), (.string ⟨#[]⟩), (.slice none 0 0), (.slice none 0 0), (.string ⟨#[]⟩)]), 6, 104) := by kernel_rfl
        refine one_ (i := 10) (N := some 93) #[true, true, true, true, true, true, true, true, true, true, true, false, false] rfl rfl (by kernel_rfl) (by decide) (fun K hK => ?_)
        refine Kd.N_append_step k28 (W := w13) (w0 := w4) w4.heap.size (by rfl) _ _ 26 28 _ 104 rfl Tryd.underlying26 i28 (by rfl) (by decide) (by decide) v _ (linkN rel (pageB base x)) _ (fun k => k ≠ w10.heap.size ∧ okM okl w.heap.size k) (fun k => w12.heap.size ≤ k) rfl rfl HF13.out (fun k_ hk => ⟨⟨by have := HN12.out.lt; omega, okM_gt (by have := HN12.out.lt; have := HB10.out.size; omega)⟩, fun e => by have := Kd.N_lt HN12.out.kids _ e.symm; omega⟩) (fun k_ hk => ⟨by have := HN13.out.lt; omega, okM_gt (by have := HN13.out.lt; have := HB10.out.size; omega)⟩) HN13.out.kids HW13.out HW13.out.size (by omega) ?_
        intro v1 w14 hn hb14 hg hat
        obtain ⟨A1, c1, rfl, _, _⟩ := Kd.N_reads hn
        have hne : some w11.heap.size ≠ v.ownBlock := by
          intro e
          obtain ⟨cells, hc⟩ := Kd.N_typed HN13.out.kids _ e.symm
          have h9 := HX13.out
          rw [hc] at h9
          cases h9
        have hlx : w11.heap.size < w13.heap.size := by
          rcases Nat.lt_or_ge w11.heap.size w13.heap.size with h | h
          · exact h
          · have := HX13.out; rw [Array.getElem?_eq_none h] at this; cases this
        have hB14 := (hg.block _ HN13.out.lt (fun e => (HN13.out.kids.1 _ e.symm).1 rfl)).trans HN13.out.blk
        have hX14 := (hg.block _ hlx hne).trans HX13.out
        have HS := Lib.hid (HN13.out.put hn hg)
        refine hK.out _ _ ⟨(Lnk.blk_cell hB14 4 v rfl).1, (Lnk.blk_cell hX14 j _ HCX.out).1⟩ (fun hHeld => ?_)
        clear hK K
        refine norm_ (a' := ?_) ?_ ?_
        rotate_left
        · show Act.put _ (some 93) _ = _
          simp only [Act.put, List.setIfInBounds_toArray, List.set_cons_zero, List.set_cons_succ, i64_w, i32_w]
          rfl
        refine pure_ (i := 11) (N := some 94) (v := ?_) (a' := ?_) #[true, true, true, true, true, true, true, true, true, true, true, true, false] rfl rfl (by kernel_rfl) (fun _ _ _ h => h) (Or.inl ⟨by rfl, ?_⟩) ?_ ?_
        rotate_left
        · intro w'
          go_simp
          with_reducible rfl
        rotate_left
        · simp only [Act.put, List.setIfInBounds_toArray, List.set_cons_zero, List.set_cons_succ, i64_w, i32_w]
          rfl
        have hc4 := (Lnk.blk_cell hB14 4 v rfl).1
        have hf4 := (Lnk.blk_cell hB14 4 v rfl).2
        refine last_ (i := 12) (N := none) #[true, true, true, true, true, true, true, true, true, true, true, true, true] rfl rfl (by kernel_rfl) (by decide) (fun K hK => ?_)
        refine skip_ (w1 := ?_) (by rfl) rfl ?_ ?_
        rotate_left
        · go_simp
          rfl
        refine hK.out _ _ ?_
        clear hK K
        refine done_ (by kernel_rfl) ?_
        show Exit.inBlock _ _ _ _ _
        have hne2 : w11.heap.size ≠ w10.heap.size := by
          intro e
          have h9 := HN.out.blk
          have h8 := HX.out
          rw [e, h9] at h8
          cases h8
        have HBX := Lib.hid (blk_far hX14 (p := ⟨w10.heap.size, 4, none⟩) (u := .slice A1 ((ini ++ linksUp base k nx la j) ++ [linkN rel (pageB base x)]).length c1) (fun e => hne2 e.symm))
        have HBW := Lib.hid (hb14.setCell (p := ⟨w10.heap.size, 4, none⟩) HB10.out.size (.slice A1 ((ini ++ linksUp base k nx la j) ++ [linkN rel (pageB base x)]).length c1))
        have hls : (ini ++ linksUp base k nx la j) ++ [linkN rel (pageB base x)] = ini ++ linksUp base k nx la (j + 1) := by rw [HL.out]; unfold linkAt; rw [if_pos hxp, List.append_assoc]
        have hlz : ((ini ++ linksUp base k nx la j) ++ [linkN rel (pageB base x)]).length = ini.length + ((linksUp base k nx la j).length + 1) := by simp only [List.length_append, List.length_cons, List.length_nil]; omega
        rw [hlz] at HS HBX HBW
        rw [hls] at HS
        clear hls hlz
        clear hX14 hB14 hc4 hf4 hn hg hat hne hne2 hlx i28 hlen hb14 HN13 HX13 HF13 HB13 HN12 HX12
        go_wp2_with fail
        go_roundg (4 - (j + 1))
        case measure => omega
        case rel => exact ⟨j + 1, by go_num, by omega, Nat.le_refl _, ⟨HBW.out, HBX.out, _, HS.out⟩⟩
      · have hls : ini ++ linksUp base k nx la j = ini ++ linksUp base k nx la (j + 1) := by rw [HL.out]; unfold linkAt; rw [if_neg hxp, List.append_nil]
        have HLS := Lib.hid hls
        clear hls
        go_wp2_with fail
        go_roundg (4 - (j + 1))
        case measure => omega
        case rel => exact ⟨j + 1, by go_num, by omega, Nat.le_refl _, ⟨HW.out.1, HX.out, v, by rw [← HLS.out]; exact HN.out⟩⟩
    · obtain rfl : j = 4 := by omega
      go_wp2_with fail
      obtain ⟨ps, hps⟩ : ∃ ps, ps = pageOf l s k := ⟨_, rfl⟩
      rw [← hps] at hcp HCp4 ⊢
      have HPS := Lib.hid hps
      have hm99 : ps.length ≤ 999999999999 := by rw [hps]; unfold pageOf; rw [List.length_drop, List.length_take]; omega
      clear hps
      obtain ⟨m, hm⟩ : ∃ m, m = ps.length := ⟨_, rfl⟩
      have HM := Lib.hid hm
      rw [← hm] at hcp hm99 ⊢
      clear hm
      obtain ⟨wo, rfl⟩ : ∃ wo : World, wo = wr := ⟨_, rfl⟩
      go_loopg [98] m (fun kx s98 wq => ∃ i : Nat, s98 = .int .i64 (i : Int) ∧ i ≤ m ∧ m - i ≤ kx ∧ Hid (Below w4.heap.size w4 wq ∧ ∃ v, NSt w4.heap.size w10.heap.size (okM okl w.heap.size) atomB ⟨#[102, 101, 101, 100]⟩ wq v ((ini ++ linksUp base k nx la 4) ++ (ps.take i).map (·.f3))))
      case atStart =>
        obtain ⟨hw1, hw2, v, hw3⟩ := HW.out
        refine ⟨0, rfl, by omega, by omega, hw1, v, ?_⟩
        rw [List.take_zero, List.map_nil, List.append_nil]
        exact hw3
      case round =>
        obtain ⟨i, rfl, him, hkx2, HV⟩ := hrel
        by_cases hlt2 : i < m
        · have hii : (i : Int) < (m : Int) := by omega
          have hi0 : (0 : Int) ≤ (i : Int) := by omega
          obtain ⟨hv1, v, hv3⟩ := HV.out
          obtain ⟨ad, A6, c6, A7, c7, rfl, xc, l6, g6, l7, g7⟩ := member_at HCp4.out hv1 i (by rw [← HM.out]; exact hlt2)
          have htk : (ps.take (i + 1)).map (·.f3) = (ps.take i).map (·.f3) ++ [(rd_T40 ps i).f3] := by
            have h9 : i < ps.length := by rw [← HM.out]; exact hlt2
            rw [List.take_succ_eq_append_getElem h9, List.map_append]
            unfold rd_T40
            simp [List.getD, List.getElem?_eq_getElem h9]
          have HT := Lib.hid htk
          clear htk
          generalize rd_T40 ps (i : Int) = y at xc l6 g6 l7 g7 HT
          have x0 := xc 0 _ rfl
          have x1 := xc 1 _ rfl
          have x2 := xc 2 _ rfl
          have x3 := xc 3 _ rfl
          have x4 := xc 4 _ rfl
          have x5 := xc 5 _ rfl
          have x6 := xc 6 _ rfl
          have x7 := xc 7 _ rfl
          have x8 := xc 8 _ rfl
          clear xc
          rw [Nat.add_zero] at x0
          rw [add_field _ _ _ (by omega)] at x1 x2 x3 x4 x5 x6 x7 x8
          have dv := (Lnk.blk_cell hv3.blk 4 v rfl).1
          have fv := (Lnk.blk_cell hv3.blk 4 v rfl).2
          have hlt10 : w10.heap.size < wr.heap.size := hv3.lt
          have hw3' : NSt w4.heap.size w10.heap.size (okM okl w.heap.size) atomB ⟨#[102, 101, 101, 100]⟩ wr v ((ini ++ linksUp base k nx la 4) ++ (ps.take i).map (·.f3)) := hv3
          obtain ⟨xs0, hxs0⟩ : ∃ xs0, xs0 = (ini ++ linksUp base k nx la 4) ++ (ps.take i).map (·.f3) := ⟨_, rfl⟩
          have LN : Hid ((xs0.length + 1) * 104 ≤ 140737488355328) := by
            show _ ≤ _
            have h8 := linksUp_len base k nx la 4
            have h7 : ini.length = 4 := by rw [← HINI.out]; rfl
            rw [hxs0, List.length_append, List.length_append, List.length_map, List.length_take, ← HM.out]
            omega
          have HT2 : Hid (xs0 ++ [y.f3] = (ini ++ linksUp base k nx la 4) ++ (ps.take (i + 1)).map (·.f3)) := by
            show _ = _
            rw [HT.out, hxs0, List.append_assoc]
          rw [← hxs0] at hw3' hv3
          have HN := Lib.hid hw3'
          have HV1 := Lib.hid hv1
          have G6 := Lib.hid g6
          have G7 := Lib.hid g7
          have L6 := Lib.hid l6
          have L7 := Lib.hid l7
          have hsz4 : w4.heap.size ≤ wr.heap.size := hv1.size
          clear hv1 hv3 g6 g7 l6 l7 hw3' hxs0 HT
          have i28 : (Tryd.prog.info? 28).map (fun i => (i.zero, i.size, i.bytes)) = some (some (.agg #[(.int .i64 0), (.string ⟨#[]⟩), (.string ⟨#[]⟩), (.slice none 0 0), (.slice none 0 0), (.string ⟨#[]⟩)]), 6, 104) := by kernel_rfl
          have I28 := Lib.hid i28
          have hz10 := HB10.out.size
          have A8 : Hid (∀ k_, (okM okl w.heap.size k_ ∧ k_ < w4.heap.size) → (k_ ≠ w10.heap.size ∧ okM okl w.heap.size k_) ∧ some k_ ≠ v.ownBlock) := fun k_ hk => ⟨⟨by omega, hk.1⟩, fun e => by have := Kd.N_base HN.out.kids k_ e.symm; omega⟩
          have A9 : Hid (∀ (o : Obj) (k_ : Nat), (wr.alloc o).heap.size ≤ k_ → k_ ≠ w10.heap.size ∧ okM okl w.heap.size k_) := fun o k_ hk => by have h8 := hb0lt; simp at hk; exact ⟨by omega, okM_gt (by omega)⟩
          have A10 : Hid (∀ o : Obj, w4.heap.size ≤ (wr.alloc o).heap.size) := fun o => by simp; omega
          clear i28 hz10
          go_wp2_with (at_builtin; (refine Kd.N_append k28 (w0 := w4) w4.heap.size ?g1 ?s1 ?s2 26 28 _ 104 ?g2 Tryd.underlying26 I28.out ?g5 ?g6 ?g7 v _ y.f3 _ (fun k => k ≠ w10.heap.size ∧ okM okl w.heap.size k) (fun k => okM okl w.heap.size k ∧ k < w4.heap.size) ?g3 ?g4 (k28_mkF _ _ y.f3 L6.out (Kd.F_alloc G6.out _) L7.out (Kd.F_alloc G7.out _)) A8.out (A9.out _) (Kd.N_alloc HN.out.kids _) (HV1.out.alloc HV1.out.size _) (A10.out _) LN.out ?gg); (case g1 => rfl); (case g2 => rfl); (case g3 => rfl); (case g4 => first | rfl | (go_simp; done) | (go_simp; rfl)); (case g5 => rfl); (case g6 => decide); (case g7 => decide))
          intro v1 w6 hn hb6 hg hat
          obtain ⟨A1, c1, rfl, _, _⟩ := Kd.N_reads hn
          have hHB := HN.out.below ((Below.refl wr.heap.size wr).alloc (Nat.le_refl _) (Obj.cells #[.int .i64 y.f0, .int .i64 y.f1, .string y.f2, .int .i64 y.f3.f0, .string y.f3.f1, .string y.f3.f2, .slice A6 y.f3.f3.length c6, .slice A7 y.f3.f4.length c7, .string y.f3.f5] 40))
          have hB6 := (hg.block _ hHB.lt (fun e => (hHB.kids.1 _ e.symm).1 rfl)).trans hHB.blk
          have HS := Lib.hid (hHB.put hn hg)
          have HBW := Lib.hid (hb6.setCell (p := ⟨w10.heap.size, 4, none⟩) HB10.out.size (.slice A1 (xs0 ++ [y.f3]).length c1))
          have hc4 := (Lnk.blk_cell hB6 4 v rfl).1
          have hf4 := (Lnk.blk_cell hB6 4 v rfl).2
          have hlz : (xs0 ++ [y.f3]).length = xs0.length + 1 := by rw [List.length_append]; rfl
          rw [hlz] at HBW HS
          rw [HT2.out] at HS
          clear hn hb6 hg hat hHB hB6 hlz
          go_wp2_with fail
          go_roundg (m - (i + 1))
          case measure => omega
          case rel => exact ⟨i + 1, by go_num, by omega, Nat.le_refl _, ⟨HBW.out, _, HS.out⟩⟩
        · obtain rfl : i = m := by omega
          obtain ⟨hv1, v, hv3⟩ := HV.out
          obtain ⟨A4, c4, rfl, hl4, hC4⟩ := Kd.N_reads hv3.kids
          have e0 := (Lnk.blk_cell hv3.blk 0 _ rfl).1
          have e1 := (Lnk.blk_cell hv3.blk 1 _ rfl).1
          have e2 := (Lnk.blk_cell hv3.blk 2 _ rfl).1
          have e3 := (Lnk.blk_cell hv3.blk 3 _ rfl).1
          have e4 := (Lnk.blk_cell hv3.blk 4 _ rfl).1
          have e5 := (Lnk.blk_cell hv3.blk 5 _ rfl).1
          have hfk : (ini ++ linksUp base k nx la 4) ++ (ps.take i).map (·.f3) = feedK base title l s k at_ := by
            unfold feedK
            rw [← HNX.out, ← HLA.out, ← HPS.out, ← HTX.out, HINI.out, List.take_of_length_le (by rw [HM.out]; exact Nat.le_refl _)]
          rw [hfk] at hl4 hC4 e4
          have HL4 := Lib.hid hl4
          have hk4 := hv3.kids
          rw [hfk] at hk4
          have HK4 := Lib.hid hk4
          have HBB : Hid (Below w.heap.size w wr) := HB4.out.trans (hv1.mono HB4.out.size)
          obtain ⟨n4, hn4⟩ : ∃ n4, n4 = (feedK base title l s k at_).length := ⟨_, rfl⟩
          rw [← hn4] at e4
          have HN4 := Lib.hid hn4
          have hbk := (hv1.block _ hb0lt).trans BK4.out
          have q0 := Lnk.blk_cell hbk 0 _ rfl
          have q1 := Lnk.blk_cell hbk 1 _ rfl
          have q2 := Lnk.blk_cell hbk 2 _ rfl
          have q3 := Lnk.blk_cell hbk 3 _ rfl
          have q4 := Lnk.blk_cell hbk 4 _ rfl
          have q5 := Lnk.blk_cell hbk 5 _ rfl
          clear hv1 hv3 hl4 hC4 hn4 hbk hk4 hfk
          go_wp2_with fail
          refine bodyPost_ret (v := .tuple #[.agg #[.int .i64 0, .string atomB, .string ⟨#[102, 101, 101, 100]⟩, .slice none 0 0, .slice A4 n4 c4, .string ⟨#[]⟩], .int .i64 0]) ?_ rfl ⟨A4, c4, by rw [HN4.out], ?_, ?_⟩
          · simp [results, Tryd.results8, go_sem, q0, q1, q2, q3, q4, q5]
          · have hx := Kd.N_far (p := ⟨w.heap.size, 5, none⟩) (Kd.N_far (p := ⟨w.heap.size, 4, none⟩) (Kd.N_far (p := ⟨w.heap.size, 3, none⟩) (Kd.N_far (p := ⟨w.heap.size, 2, none⟩) (Kd.N_far (p := ⟨w.heap.size, 1, none⟩) (Kd.N_far (p := ⟨w.heap.size, 0, none⟩) HK4.out (fun _ hk => okM_ne hk.2) (.int .i64 0)) (fun _ hk => okM_ne hk.2) (.string atomB)) (fun _ hk => okM_ne hk.2) (.string ⟨#[102, 101, 101, 100]⟩)) (fun _ hk => okM_ne hk.2) (.slice none 0 0)) (fun _ hk => okM_ne hk.2) (.slice A4 n4 c4)) (fun _ hk => okM_ne hk.2) (.string ⟨#[]⟩)
            exact Kd.N_V (Kd.N_mono hx (fun _ hk => okM_out hk.2))
          · exact (((((HBB.out.setCell (p := ⟨w.heap.size, 0, none⟩) (Nat.le_refl _) _).setCell (p := ⟨w.heap.size, 1, none⟩) (Nat.le_refl _) _).setCell (p := ⟨w.heap.size, 2, none⟩) (Nat.le_refl _) _).setCell (p := ⟨w.heap.size, 3, none⟩) (Nat.le_refl _) _).setCell (p := ⟨w.heap.size, 4, none⟩) (Nat.le_refl _) _).setCell (p := ⟨w.heap.size, 5, none⟩) (Nat.le_refl _) _
end Go.Proofs.YtjbckpoepfbgbaaDoor.Fd
end
section
/- broadsheetref23.Feed: the walk. Printed by wip/F23/genrfd.py. -/
set_option linter.unusedVariables false
set_option linter.unusedSimpArgs false
set_option maxRecDepth 20000
namespace Go.Proofs.YtjbckpoepfbgbaaDoor.Fd
open Go.RowKit Go.Lib Go.Proofs.YtjbckpoepfbgbaaDoor.Pr Go.Proofs.YtjbckpoepfbgbaaDoor.Gv Go.Proofs.YtjbckpoepfbgbaaDoor.Lnk Go.Proofs.YtjbckpoepfbgbaaDoor.Mrg Go.Proofs.YtjbckpoepfbgbaaDoor.Srt Go.Proofs.YtjbckpoepfbgbaaDoor.Fun Go.Proofs.YtjbckpoepfbgbaaDoor.Txt Go.Proofs.YtjbckpoepfbgbaaDoorW.PrintWords Go.Proofs.YtjbckpoepfbgbaaDoorW.PrintLast Go.Proofs.YtjbckpoepfbgbaaDoorW.PrintMore
theorem blk_lt {w : World} {g : Nat} {o : Obj} (h : w.heap[g]? = some o) : g < w.heap.size := by
  rcases Nat.lt_or_ge g w.heap.size with h1 | h1
  · exact h1
  · rw [Array.getElem?_eq_none h1] at h; cases h
theorem alloc_at (w : World) (o : Obj) : (w.alloc o).heap[w.heap.size]? = some o := by
  show (w.heap.push o)[w.heap.size]? = _
  simp
theorem N_some {w : World} {base : Nat} {ok : Nat → Prop} {v : Value} {xs : List S28} (h : Kd.N k28 28 w base ok v xs) : ∃ A n c, v = .slice A n c := by
  obtain ⟨A, c, h⟩ := Kd.N_slice h
  exact ⟨A, _, c, h⟩
/-- When the latest one was edited. -/
def latN (l : List S40) : Int := l.foldl (fun a m => max a m.f1) 0
theorem cell_keep {W W1 : World} (hb : Below W.heap.size W W1) {a : Addr} {v : Value} (h : W.cell? a = some v) : W1.cell? a = some v := (hb.cell (World.block_lt_of_cell? _ _ h)).trans h
theorem cell_grown {W W1 : World} {row : Option Nat} (hg : W.grownBy W1 row) {a : Addr} {v : Value} (h : W.cell? a = some v) (hne : some a.block ≠ row) : W1.cell? a = some v := by
  have h1 := hg.block a.block (World.block_lt_of_cell? _ _ h) hne
  exact (World.cell?_of_block h1).trans h
attribute [local go_sem] max2_int min2_int max_two min_two
end Go.Proofs.YtjbckpoepfbgbaaDoor.Fd
end
section
/- feed.Feed and the document's: the ways with errors. -/
set_option linter.unusedVariables false
set_option linter.unusedSimpArgs false
set_option maxRecDepth 20000
namespace Go.Proofs.YtjbckpoepfbgbaaDoor.Fd
open Go.RowKit Go.Lib Go.Proofs.YtjbckpoepfbgbaaDoor.Pr Go.Proofs.YtjbckpoepfbgbaaDoor.Gv Go.Proofs.YtjbckpoepfbgbaaDoor.Lnk Go.Proofs.YtjbckpoepfbgbaaDoor.Mrg Go.Proofs.YtjbckpoepfbgbaaDoor.Srt Go.Proofs.YtjbckpoepfbgbaaDoor.Fun Go.Proofs.YtjbckpoepfbgbaaDoor.Txt Go.Proofs.YtjbckpoepfbgbaaDoorW.PrintWords Go.Proofs.YtjbckpoepfbgbaaDoorW.PrintLast Go.Proofs.YtjbckpoepfbgbaaDoorW.PrintMore
/-- The node that is nothing, and an error. -/
def Failed (er : Int) (w : World) (e : Ending) (w' : World) : Prop := e = .returned (.tuple #[.agg #[.int .i64 0, .string ⟨#[]⟩, .string ⟨#[]⟩, .slice none 0 0, .slice none 0 0, .string ⟨#[]⟩], .int .i64 er]) ∧ Below w.heap.size w w'
theorem below6 {w wr : World} (h : Below w.heap.size w wr) (a b c d e f : Value) : Below w.heap.size w ((((((wr.setCell ⟨w.heap.size, 0, none⟩ a).setCell ⟨w.heap.size, 1, none⟩ b).setCell ⟨w.heap.size, 2, none⟩ c).setCell ⟨w.heap.size, 3, none⟩ d).setCell ⟨w.heap.size, 4, none⟩ e).setCell ⟨w.heap.size, 5, none⟩ f) :=
  (((((h.setCell (p := ⟨w.heap.size, 0, none⟩) (Nat.le_refl _) _).setCell (p := ⟨w.heap.size, 1, none⟩) (Nat.le_refl _) _).setCell (p := ⟨w.heap.size, 2, none⟩) (Nat.le_refl _) _).setCell (p := ⟨w.heap.size, 3, none⟩) (Nat.le_refl _) _).setCell (p := ⟨w.heap.size, 4, none⟩) (Nat.le_refl _) _).setCell (p := ⟨w.heap.size, 5, none⟩) (Nat.le_refl _) _
set_option maxHeartbeats 4000000 in
theorem feedE1 (base title : ByteArray) (A : Option Addr) (cc n : Nat) (s k er : Int) (w : World) (her : er = 1 ∨ er = 10)
    (C : ∀ W, Calls Tryd.prog 17 #[.slice A n cc, .int .i64 s, .int .i64 k] W fun e w' => e = .returned (.tuple #[.slice none 0 0, .int .i64 er]) ∧ Below W.heap.size W w') :
    Calls Tryd.prog 8 #[.string base, .string title, .slice A n cc, .int .i64 s, .int .i64 k] w (Failed er w) := by
  have HC := Lib.hid C
  clear C
  go_enter Tryd.func8, Tryd.ntmps8
  go_wp2_with fail
  refine (HC.out (w.alloc (.cells #[.int .i64 0, .string ⟨#[]⟩, .string ⟨#[]⟩, .slice none 0 0, .slice none 0 0, .string ⟨#[]⟩] 28))).mono ?_
  rintro e w2 ⟨rfl, hb2⟩
  have HB2 : Hid (Below w.heap.size w w2) := ((Below.refl _ _).alloc (Nat.le_refl _) _).trans (hb2.mono (by simp))
  have BK := (new_blk _ _ _ hb2)
  have q0 := Lnk.blk_cell BK.1 0 _ rfl
  have q1 := Lnk.blk_cell BK.1 1 _ rfl
  have q2 := Lnk.blk_cell BK.1 2 _ rfl
  have q3 := Lnk.blk_cell BK.1 3 _ rfl
  have q4 := Lnk.blk_cell BK.1 4 _ rfl
  have q5 := Lnk.blk_cell BK.1 5 _ rfl
  clear hb2 BK HC
  rcases her with rfl | rfl
  all_goals
    go_wp2_with fail
    refine bodyPost_ret (v := .tuple #[.agg #[.int .i64 0, .string ⟨#[]⟩, .string ⟨#[]⟩, .slice none 0 0, .slice none 0 0, .string ⟨#[]⟩], .int .i64 _]) ?_ rfl ⟨rfl, below6 HB2.out _ _ _ _ _ _⟩
    simp [results, Tryd.results8, go_sem, q0, q1, q2, q3, q4, q5]
/-- Behind the page: the date may not be told, or a name is nothing. -/
def late (base title : ByteArray) (at_ : Int) (er : Int) : Prop := (¬ inR at_ 0 ∧ er = 110) ∨ (inR at_ 0 ∧ (base.toList == ([] : List UInt8)) = true ∧ er = 1) ∨ (inR at_ 0 ∧ (base.toList == ([] : List UInt8)) = false ∧ (title.toList == ([] : List UInt8)) = true ∧ er = 1)
set_option maxHeartbeats 4000000 in
theorem feedE2 (base title : ByteArray) (A : Option Addr) (cc : Nat) (l : List S40) (s k at_ er : Int) (w : World) (hC : Kd.C k40 w A l.length l) (hcc : l.length ≤ cc) (hl : l.length ≤ 1000000) (hG : LaidW w) (hF : Fit l.length s) (h1 : 1 ≤ k) (h2 : k ≤ lastP l.length s)
    (hat : ∃ q, feed_latest.f q l = some at_) (hlt : late base title at_ er) :
    Calls Tryd.prog 8 #[.string base, .string title, .slice A l.length cc, .int .i64 s, .int .i64 k] w (Failed er w) := by
  have HC := Lib.hid hC
  have HF := Lib.hid hF
  have HG := Lib.hid hG
  have HLT := Lib.hid hlt
  clear hC hF hG hlt
  go_enter Tryd.func8, Tryd.ntmps8
  go_wp2_with fail
  have C1 := pageO A cc l s k (w.alloc (.cells #[.int .i64 0, .string ⟨#[]⟩, .string ⟨#[]⟩, .slice none 0 0, .slice none 0 0, .string ⟨#[]⟩] 28)) (Kd.C_below HC.out ((Below.refl _ _).alloc (Nat.le_refl _) _)) (by omega) HF.out h1 h2
  refine C1.mono ?_
  clear C1
  rintro e w2 ⟨Ap, cp, rfl, hcp, hCp, hb2⟩
  have HB2 : Hid (Below w.heap.size w w2) := ((Below.refl _ _).alloc (Nat.le_refl _) _).trans (hb2.mono (by simp))
  have BK := (new_blk _ _ _ hb2)
  clear hb2 hCp hcp
  go_wp2_with fail
  obtain ⟨q, hq⟩ := hat
  refine (feed_latest.calls q A cc l at_ w2 (Kd.C_below HC.out HB2.out) hcc hq).mono ?_
  rintro e w3 ⟨rfl, hb3⟩
  have HB3 : Hid (Below w.heap.size w w3) := HB2.out.trans (hb3.mono HB2.out.size)
  have BK3 := Lib.hid ((hb3.block _ BK.2).trans BK.1)
  clear hb3 hq BK HB2
  go_wp2_with fail
  obtain ⟨tx, ed, hpr, hed⟩ : ∃ tx ed, date_Print.f 1 at_ 0 = some (tx, ed) ∧ ((ed = 110 ∧ er = 110) ∨ (ed = 0 ∧ er = 1 ∧ ((base.toList == ([] : List UInt8)) = true ∨ ((base.toList == ([] : List UInt8)) = false ∧ (title.toList == ([] : List UInt8)) = true)))) := by
    rcases HLT.out with ⟨h, he⟩ | ⟨h, hb, he⟩ | ⟨h, hb, ht, he⟩
    · exact ⟨_, _, print_bad 1 (by omega) at_ 0 h, .inl ⟨rfl, he⟩⟩
    · exact ⟨_, _, print_ok 1 (by omega) at_ 0 h, .inr ⟨rfl, he, .inl hb⟩⟩
    · exact ⟨_, _, print_ok 1 (by omega) at_ 0 h, .inr ⟨rfl, he, .inr ⟨hb, ht⟩⟩⟩
  refine (date_Print.calls 1 at_ 0 tx ed w3 (HG.out.step HB3.out) hpr).mono ?_
  rintro e w4 ⟨rfl, hb4⟩
  have HB4 : Hid (Below w.heap.size w w4) := HB3.out.trans (hb4.mono HB3.out.size)
  have BK4 := ((hb4.block _ (blk_lt BK3.out)).trans BK3.out)
  have q0 := Lnk.blk_cell BK4 0 _ rfl
  have q1 := Lnk.blk_cell BK4 1 _ rfl
  have q2 := Lnk.blk_cell BK4 2 _ rfl
  have q3 := Lnk.blk_cell BK4 3 _ rfl
  have q4 := Lnk.blk_cell BK4 4 _ rfl
  have q5 := Lnk.blk_cell BK4 5 _ rfl
  clear hb4 HB3 BK3 BK4 hpr HLT
  rcases hed with ⟨rfl, rfl⟩ | ⟨rfl, rfl, hb0 | ⟨hb0, ht0⟩⟩
  all_goals
    go_wp2_with fail
    refine bodyPost_ret (v := .tuple #[.agg #[.int .i64 0, .string ⟨#[]⟩, .string ⟨#[]⟩, .slice none 0 0, .slice none 0 0, .string ⟨#[]⟩], .int .i64 _]) ?_ rfl ⟨rfl, below6 HB4.out _ _ _ _ _ _⟩
    simp [results, Tryd.results8, go_sem, q0, q1, q2, q3, q4, q5]
attribute [local go_sem] max2_int min2_int max_two min_two
end Go.Proofs.YtjbckpoepfbgbaaDoor.Fd
end
