/- The program's order of members: a new row of the same members, sorted ('isort' by the later edited, then the greater number). -/
import Derived.Test.YtjbfjgaghjggpaaStb
import Derived.Test.YtjbfjgaghjggpaaClo
import Derived.Test.YtjbfjgaghjggpaaWWords
set_option linter.unusedVariables false
set_option linter.unusedSectionVars false
namespace Go.Proofs.Ytjbfjgaghjggpaa.Srt
open Go.Shelf Go.RowKit Go.Lib Go.Sort Go.Proofs.Ytjbfjgaghjggpaa.Mrg Go.Proofs.YtjbfjgaghjggpaaW.PrintWords

/-- Members' cells, as a kind. -/
def kCel : Kd Cel where
  sz := 9
  E := []
  K := fun _ x cs => cs = x.enc
  M := fun _ _ _ x cs => cs = x.enc
  K_len := fun h => by rw [h]; rfl
  K_one := fun {w x cs} h u hu => by rw [h] at hu; exact x.h1 u hu
  K_below := fun _ h => h
  K_of_M := fun h => h
  M_mono := fun _ h => h
  M_bound := fun h => h
  M_move := fun _ h => h
  M_lower := fun _ h => h

theorem ltOf_cel (a b : Cel) : ltOf cmpCel a b = decide (b.ed < a.ed ∨ b.ed = a.ed ∧ b.num < a.num) := by
  unfold ltOf cmpCel cmpInt
  rcases Int.lt_trichotomy b.ed a.ed with h | h | h
  · simp [h]
  · rcases Int.lt_trichotomy b.num a.num with g | g | g
    · simp [h, g]
    · simp [h, g]
    · simp [h, g, show ¬ b.num < a.num by omega]
  · simp [h, show ¬ b.ed < a.ed by omega, show ¬ b.ed = a.ed by omega]
theorem swoCel : SWO (ltOf cmpCel) := by
  constructor
  all_goals simp only [ltOf_cel, decide_eq_true_eq, decide_eq_false_iff_not]
  · intro x; omega
  · intro x y z h1 h2; omega
  · intro x y z h1 h2; omega

/-- The library's sort by insertion at members. -/
def ins_ren : Go.Shelf.Ren := ⟨fun | 20 => 29 | n => n, fun | 0 => 0 | 3 => 3 | 4 => 4 | 22 => 24 | 24 => 32 | 25 => 50 | n => n, fun n => n⟩
theorem insLays : SlLaysF0.n20 Try.prog ins_ren where
  mixed := by kernel_rfl
  f20 := ⟨Try.f29.name, by kernel_rfl, Try.func29.trans (congrArg some (by kernel_rfl))⟩
  t0 := Try.underlying0
  a0 := Try.isAgg0
  z0 := Try.sizeOf0
  v0 := Try.zeroValue0
  t3 := Try.underlying3
  a3 := Try.isAgg3
  z3 := Try.sizeOf3
  v3 := Try.zeroValue3
  t4 := Try.underlying4
  a4 := Try.isAgg4
  z4 := Try.sizeOf4
  v4 := Try.zeroValue4
  t22 := Try.underlying24
  a22 := Try.isAgg24
  z22 := Try.sizeOf24
  v22 := Try.zeroValue24
  t25 := Try.underlying50
  a25 := Try.isAgg50
  z25 := Try.sizeOf50
  v25 := Try.zeroValue50
theorem info32 : (Try.prog.info? 32).map (fun i => (i.zero, i.size, i.bytes)) = some (some (.agg #[(.int .i64 0), (.int .i64 0), (.string ⟨#[]⟩), (.int .i64 0), (.string ⟨#[]⟩), (.string ⟨#[]⟩), (.slice none 0 0), (.slice none 0 0), (.string ⟨#[]⟩)]), 9, 136) := by kernel_rfl
theorem bod : Bod Try.prog := ⟨Try.func16, Try.func25, Try.func30, Try.func32, Try.func33⟩
theorem insSays (g : Nat) (cb : Array Value) (blk off cap : Nat) (d0 : Array Cel) (w0 : World) (eg : ∀ args w, (callFunc g args).run Try.prog w = .ok (.enter g args) w) (hcmp : CmpLays Try.prog g cb Cel.enc 9 cmpCel blk off d0.size w0)
    (R : RowK Cel.enc 9 w0 blk off d0) (hsz : d0.size < 4611686018427387904) : InsSays Try.prog Cel.enc 9 cmpCel g cb blk off cap w0 d0.size := by
  intro a b d w A X C hn S hd hA hb
  have hlen : d.size = A.length + X.length + C.length := by rw [← Array.length_toList, hd]; simp; omega
  have hC : CmpLays Try.prog g cb Cel.enc 9 cmpCel blk off d.size w := fun m os dk hdk x y => by
    obtain ⟨n0, os0, rfl⟩ := S
    rw [sortWorldK_on Cel.enc 9 w0 blk off n0 m d dk os0 os R.hblk hdk]
    exact hcmp _ _ dk (by omega) x y
  have h1 := insertion_list swoCel d A X C hd
  rw [hA, ← hb] at h1
  have hs' : (Sort.insertionSort (ltOf cmpCel) d a b).size = d.size := by rw [← Array.length_toList, h1, hlen]; simp [isort_len]; omega
  refine (AnyQ.insertionSortCmpFunc insLays 9 Try.isAgg32 Try.sizeOf32 Cel.enc R.hk R.h1 cmpCel g cb blk off cap a b d w eg hC (S.holds R.hblk R.hH hn.symm) (S.lt R.hblk) (by omega) (by omega) (by omega)).mono ?_
  rintro e w' ⟨rfl, n, os, rfl⟩
  exact ⟨rfl, _, h1, hs', S.on R.hblk n _ os hs'⟩

/-- The library's clone of a row of members. -/
theorem clone (A : Option Addr) (cc : Nat) (cs : List Cel) (w : World) (hr : Kd.C kCel w A cs.length cs) (hl : cs.length ≤ 1034834473200) :
    Calls Try.prog 15 #[.slice A cs.length cc] w fun e w' => ∃ v' : Value, e = .returned v' ∧ Kd.R kCel 32 w' w.heap.size (fun _ => True) v' cs ∧ Below w.heap.size w w' := by
  have q24 : ∀ (w : World) (a : Option Addr) (n c n' c' : Nat), (binOp .eql 24 (.slice a n c) (.slice none n' c')).run Try.prog w = .ok (.bool a.isNone) w := fun w a n c n' c' => Lib.run_eql_slice_nil w _ _ a n c n' c' Try.underlying24
  have HR := Lib.hid hr
  clear hr
  cases A with
  | none =>
    have h0 : cs = [] := by
      rcases Nat.eq_zero_or_pos cs.length with h0 | h0
      · exact List.eq_nil_of_length_eq_zero h0
      · obtain ⟨ad, h, _⟩ := HR.out.2.2 h0
        cases h
    subst h0
    go_enter Try.func15, Try.ntmps15
    go_wp2
    go_ret
    exact ⟨_, rfl, Kd.R_nil _ _ _ _ _, Below.refl _ _⟩
  | some ad =>
    have HO : Kd.R kCel 32 (w.alloc (.cells #[] 32)) w.heap.size (fun _ => True) (.slice (some ⟨w.heap.size, 0, none⟩) 0 0) [] := ⟨fun _ _ => trivial, [], World.ownsRow_made w #[] 0 (Nat.le_refl _) (Nat.zero_le _) (by simp), Reps.none _ _⟩
    have HB : Below w.heap.size w (w.alloc (.cells #[] 32)) := (Below.refl _ _).alloc (Nat.le_refl _) _
    have HR2 : Kd.C kCel (w.alloc (.cells #[] 32)) (some ad) cs.length cs := Kd.C_below HR.out HB
    have HH := Lib.hid (And.intro HO (And.intro HB HR2))
    clear HO HB HR2
    go_enter Try.func15, Try.ntmps15
    go_wp2_with (at_builtin; refine Kd.R_append_rows kCel w.heap.size rfl _ _ 24 32 _ 136 rfl Try.underlying24 info32 (by rfl) (by decide) (by decide) _ [] cs (some ad) cs.length cc (fun _ => True) (fun _ => False) rfl rfl HH.out.1 HH.out.2.2 (fun _ _ h => h) (fun _ h => h.elim) (fun _ _ => trivial) HH.out.2.1 (by simp) (by simp; omega) ?_)
    intro v1 w1 hr hb hg hat
    have HF := Lib.hid (And.intro hr hb)
    clear hr hb hg hat
    go_wp2
    go_ret
    exact ⟨_, rfl, HF.out.1, HF.out.2⟩

/-- The row of cells, flat, as a list of elements' cells. -/
theorem flat_reps (d : Array Cel) : Reps (fun x c => c = Cel.enc x) 9 d.toList (flatK Cel.enc 9 d).toList := by
  have hl : (flatK Cel.enc 9 d).toList.length = d.toList.length * 9 := by simp
  refine ⟨hl, fun j p hj => ?_⟩
  have hjl : j < d.size := by have := (List.getElem?_eq_some_iff.1 hj).1; simpa using this
  have hp : d[j]! = p := by rw [Array.getElem?_toList] at hj; rw [Array.getElem!_eq_getD, Array.getD_eq_getD_getElem?, hj]; rfl
  apply List.ext_getElem?
  intro i
  by_cases hi : i < 9
  · have h1 : ((flatK Cel.enc 9 d).toList.drop (j * 9))[i]? = (flatK Cel.enc 9 d).toList[j * 9 + i]? := by rw [List.getElem?_drop]
    rw [List.getElem?_take_of_lt hi, h1, Array.getElem?_toList]
    have ht : j * 9 + i < d.size * 9 := by omega
    have h2 := get_flatK Cel.enc 9 d (j * 9 + i) ht
    rw [show (j * 9 + i) / 9 = j by omega, show (j * 9 + i) % 9 = i by omega, hp] at h2
    rw [Array.getElem?_eq_getElem (by simpa using ht)]
    rw [getElem!_pos _ _ (by simpa using ht)] at h2
    rw [h2, List.getElem?_eq_getElem (by rw [Cel.len]; exact hi), List.getElem!_eq_getElem?_getD, List.getElem?_eq_getElem (by rw [Cel.len]; exact hi)]
    rfl
  · rw [List.getElem?_eq_none (by rw [List.length_take]; omega), List.getElem?_eq_none (by rw [Cel.len]; omega)]

set_option maxHeartbeats 1000000 in
theorem ins_nil (f : Value) (w : World) : Calls Try.prog 29 #[.slice none 0 0, .int .i64 0, .int .i64 0, f] w fun e w' => e = .returned (.tuple #[]) ∧ w' = w := by
  go_enter Try.func29, Try.ntmps29
  go_wp2_with fail
  go_loopg [8] 0 (fun kx s8 wr => s8 = .int .i64 1 ∧ wr = w)
  case atStart => exact ⟨rfl, rfl⟩
  case round =>
    obtain ⟨rfl, rfl⟩ := hrel
    go_wp2_with fail
    go_end0
    exact ⟨rfl, rfl⟩
set_option maxHeartbeats 1000000 in
theorem stable_nil (f : Value) (w : World) : Calls Try.prog 25 #[.slice none 0 0, .int .i64 0, f] w fun e w' => e = .returned (.tuple #[]) ∧ w' = w := by
  go_enter Try.func25, Try.ntmps25
  go_wp2_with fail
  go_loopg [7, 8] 0 (fun kx s7 s8 wr => s7 = .int .i64 0 ∧ s8 = .int .i64 20 ∧ wr = w)
  case atStart => exact ⟨rfl, rfl, rfl⟩
  case round =>
    obtain ⟨rfl, rfl, rfl⟩ := hrel
    go_wp2_with (go_at_call 29; refine (ins_nil _ _).mono ?_; rintro e w' ⟨rfl, rfl⟩)
    go_loopg [6, 7, 8, 9] 0 (fun kx s6 s7 s8 s9 wr2 => s6 = .int .i64 20 ∧ wr2 = w')
    case atStart => exact ⟨rfl, rfl⟩
    case round =>
      obtain ⟨rfl, rfl⟩ := hrel
      go_wp2_with fail
      go_end0
      exact ⟨rfl, rfl⟩
set_option maxHeartbeats 1000000 in
theorem sort_nil (f : Value) (w : World) : Calls Try.prog 16 #[.slice none 0 0, f] w fun e w' => e = .returned (.tuple #[]) ∧ w' = w := by
  go_enter Try.func16, Try.ntmps16
  go_wp2_with (go_at_call 25; refine (stable_nil _ _).mono ?_; rintro e w' ⟨rfl, rfl⟩)
  go_end0
  exact ⟨rfl, rfl⟩
set_option maxHeartbeats 1000000 in
theorem falling (A : Option Addr) (n c : Nat) (w : World) : Calls Try.prog 17 #[.slice A n c] w fun e w' => e = .returned (.func (.func 26) #[] #[.pointer (some ⟨w.heap.size, 0, none⟩)]) ∧ w' = w.alloc (.cells #[.slice A n c] 55) := by
  go_enter Try.func17, Try.ntmps17
  go_wp2
  go_ret
  exact ⟨rfl, rfl⟩

/-- The row's block, behind the sort. -/
theorem sorted_block {W : World} {g : Nat} {cur : Array Value} {T : TypeId} (h : W.heap[g]? = some (.cells cur T (0, 0))) (n : Nat) (d : Array Cel) (os : Array Obj) (hs : (flatK Cel.enc 9 d).size ≤ cur.size) :
    ∃ cur' : Array Value, (sortWorldK Cel.enc 9 W g 0 n d os).heap[g]? = some (.cells cur' T (0, 0)) ∧ cur'.size = cur.size ∧ cur'.toList.take (flatK Cel.enc 9 d).size = (flatK Cel.enc 9 d).toList := by
  have hg : g < W.heap.size := by
    rcases Nat.lt_or_ge g W.heap.size with h1 | h1
    · exact h1
    · rw [Array.getElem?_eq_none h1] at h; cases h
  generalize hF : flatK Cel.enc 9 d = F at hs ⊢
  refine ⟨putCells id 0 F cur, ?_, by simp [putCells], ?_⟩
  · unfold sortWorldK
    rw [heap_grow_old _ _ (by rw [size_putRowK]; exact hg)]
    unfold putRowK putRow
    rw [hF]
    unfold mapBlock
    simp only [Array.getElem?_modify, if_true]
    show Option.map _ (W.heap[g]?) = _
    rw [h]; rfl
  · apply List.ext_getElem?
    intro i
    by_cases hi : i < F.size
    · rw [List.getElem?_take_of_lt hi, Array.getElem?_toList, Array.getElem?_toList, Array.getElem?_eq_getElem (by simp [putCells]; omega), Array.getElem?_eq_getElem hi]
      unfold putCells
      simp [hi]
    · rw [List.getElem?_eq_none (by rw [List.length_take]; omega), List.getElem?_eq_none (by simp; omega)]
theorem sorted_below {w W : World} (hb : Below w.heap.size w W) {g : Nat} (hg : w.heap.size ≤ g) (n : Nat) (d : Array Cel) (os : Array Obj) : Below w.heap.size w (sortWorldK Cel.enc 9 W g 0 n d os) := by
  refine ⟨hb.os, hb.tape, hb.output, ?_, ?_⟩
  · exact Nat.le_trans hb.size (size_sortWorldK_c Cel.enc 9 W g 0 n d os)
  · intro k hk
    have h1 : k < W.heap.size := Nat.lt_of_lt_of_le hk hb.size
    unfold sortWorldK
    rw [heap_grow_old _ _ (by rw [size_putRowK]; exact h1)]
    unfold putRowK putRow mapBlock
    simp only [Array.getElem?_modify]
    rw [if_neg (by omega)]
    exact hb.block k hk
theorem holds_of {W : World} {g : Nat} {cur : Array Value} {T : TypeId} (h : W.heap[g]? = some (.cells cur T (0, 0))) (d : Array Cel) (hs : (flatK Cel.enc 9 d).size ≤ cur.size) (ht : cur.toList.take (flatK Cel.enc 9 d).size = (flatK Cel.enc 9 d).toList) : HoldsK Cel.enc 9 W g 0 d := by
  intro j hj
  rw [Nat.zero_add]
  have h1 : cur.toList[j]? = (flatK Cel.enc 9 d).toList[j]? := by rw [← ht, List.getElem?_take_of_lt hj]
  rw [Array.getElem?_toList, Array.getElem?_toList, Array.getElem?_eq_getElem hj] at h1
  constructor
  · have h2 : (flatK Cel.enc 9 d)[j]! = (flatK Cel.enc 9 d)[j] := getElem!_pos (flatK Cel.enc 9 d) j hj
    rw [h2]
    simp [World.cell?, h, h1]
  · simp [World.frozen?, h]

theorem reps_inj {f : Cel → List Value} {xs : List Cel} {l1 l2 : List Value} (h1 : Reps (fun x c => c = f x) 9 xs l1) (h2 : Reps (fun x c => c = f x) 9 xs l2) : l1 = l2 := by
  apply List.ext_getElem?
  intro i
  by_cases hi : i < xs.length * 9
  · have hj : i / 9 < xs.length := by omega
    have a := h1.2 (i / 9) xs[i / 9] (List.getElem?_eq_getElem hj)
    have b := h2.2 (i / 9) xs[i / 9] (List.getElem?_eq_getElem hj)
    have e : ((l1.drop (i / 9 * 9)).take 9)[i % 9]? = ((l2.drop (i / 9 * 9)).take 9)[i % 9]? := by rw [a, b]
    rw [List.getElem?_take_of_lt (by omega), List.getElem?_take_of_lt (by omega), List.getElem?_drop, List.getElem?_drop, show i / 9 * 9 + i % 9 = i by omega] at e
    exact e
  · rw [List.getElem?_eq_none (by rw [h1.1]; omega), List.getElem?_eq_none (by rw [h2.1]; omega)]

set_option maxHeartbeats 4000000 in
/-- The program's order. -/
theorem order (A : Option Addr) (cc : Nat) (cs : List Cel) (w : World) (hr : Kd.C kCel w A cs.length cs) (hl : cs.length ≤ 1034834473200) :
    Calls Try.prog 9 #[.slice A cs.length cc] w fun e w' => ∃ v' : Value, e = .returned v' ∧ Kd.R kCel 32 w' w.heap.size (fun _ => True) v' (isort (ltOf cmpCel) cs) ∧ Below w.heap.size w w' := by
  have C1 := clone A cc cs w hr hl
  clear hr
  go_enter Try.func9, Try.ntmps9
  go_wp2_with fail
  refine C1.mono ?_
  clear C1
  rintro e w1 ⟨v, rfl, hv, hb⟩
  obtain ⟨_, inner, hown, hrep⟩ := hv
  rcases hown.2 with ⟨rfl, hn⟩ | ⟨g, cap, cur, rfl, hg, hh, hnc, hcm, hcs, htk⟩
  · have h0 : cs = [] := List.eq_nil_of_length_eq_zero hn
    have HB := Lib.hid hb
    clear hb hown hrep hl hn
    go_wp2_with (first | (go_at_call 17; refine (falling _ _ _ _).mono ?_; rintro e w' ⟨rfl, rfl⟩) | (go_at_call 16; refine (sort_nil _ _).mono ?_; rintro e w' ⟨rfl, rfl⟩))
    go_ret
    refine ⟨_, rfl, ?_, ?_⟩
    · rw [h0]; exact Kd.R_nil _ _ _ _ _
    · exact (HB.out.alloc HB.out.size _).alloc (by have := HB.out.size; simp; omega) _
  · have hb2 := hb.size
    have HB := Lib.hid hb
    have HO := Lib.hid (And.intro hh (And.intro hcs (And.intro htk (And.intro hrep hown.1))))
    clear hb hown hrep htk hcs
    go_wp2_with (go_at_call 17; refine (falling _ _ _ _).mono ?_; rintro e w' ⟨rfl, rfl⟩)
    obtain ⟨W, hW⟩ : ∃ W, W = ((w1.alloc (Obj.cells #[Value.func (Fn.func 18) #[] #[], Value.func (Fn.func 19) #[] #[]] 52)).alloc (Obj.cells #[Value.slice (some { block := w1.heap.size, off := 0 }) 2 2] 55)) := ⟨_, rfl⟩
    have hgl : g < w1.heap.size := by
      rcases Nat.lt_or_ge g w1.heap.size with h1 | h1
      · exact h1
      · rw [Array.getElem?_eq_none h1] at hh; cases hh
    have hBW : Below w.heap.size w W := by rw [hW]; exact (HB.out.alloc HB.out.size _).alloc (by have := HB.out.size; simp; omega) _
    have hgW : W.heap[g]? = some (.cells cur 32 (0, 0)) := by rw [hW]; exact alloc_old _ _ _ _ (alloc_old _ _ _ _ hh)
    have hfl : inner = (flatK Cel.enc 9 cs.toArray).toList := reps_inj (f := Cel.enc) HO.out.2.2.2.1 (flat_reps cs.toArray)
    have hfs : (flatK Cel.enc 9 cs.toArray).size = cs.length * 9 := by simp
    have hsz : W.heap.size = w1.heap.size + 2 := by rw [hW]; simp
    have hHd : HoldsK Cel.enc 9 W g 0 cs.toArray := holds_of hgW cs.toArray (by rw [hfs, HO.out.2.1]; exact Nat.mul_le_mul_right _ hnc) (by rw [hfs]; exact HO.out.2.2.1.trans hfl)
    have RK : RowK Cel.enc 9 W g 0 cs.toArray := ⟨Cel.len, Cel.h1, hHd, by omega⟩
    have eg : ∀ args w, (callFunc 26 args).run Try.prog w = .ok (.enter 26 args) w := enters_of Try.func26 (by kernel_rfl) rfl
    have e29 : ∀ args w, (callFunc 29 args).run Try.prog w = .ok (.enter 29 args) w := enters_of Try.func29 (by kernel_rfl) rfl
    have HC : CmpLays Try.prog 26 #[.pointer (some ⟨w1.heap.size + 1, 0, none⟩)] Cel.enc 9 cmpCel g 0 cs.toArray.size W := fallsLays (w1.heap.size + 1) w1.heap.size 2 g 0 _ W (by rw [hW]; simp) (by rw [hW]; simp) (by rw [hW]; simp) (by omega) (by omega)
    have hls : cs.toArray.size < 1000000000000000000 := by simp; omega
    have C2 := sortStable (bas) bod Cel.enc cmpCel 26 #[.pointer (some ⟨w1.heap.size + 1, 0, none⟩)] g 0 cap cs.toArray W e29 eg HC swoCel RK (insSays 26 _ g 0 cap cs.toArray W eg HC RK (by omega)) hls
    rw [← hW]
    rw [List.size_toArray] at C2
    refine C2.mono ?_
    clear C2 HC RK hHd eg e29 hls
    rintro e w2 ⟨rfl, d', hl', hz', n, os, rfl⟩
    obtain ⟨cur', hk1, hk2, hk3⟩ := sorted_block hgW n d' os (by rw [size_flatK, hz', HO.out.2.1]; exact Nat.mul_le_mul_right _ hnc)
    have HF : Hid (Kd.R kCel 32 (sortWorldK Cel.enc 9 W g 0 n d' os) w.heap.size (fun _ => True) (.slice (some ⟨g, 0, none⟩) cs.length cap) (isort (ltOf cmpCel) cs)) := by
      have hll : (isort (ltOf cmpCel) cs).length = cs.length := isort_len cs
      refine ⟨fun _ _ => trivial, (flatK Cel.enc 9 d').toList, ?_, ?_⟩
      · rw [hll]
        refine ⟨by simp [hz']; rfl, Or.inr ⟨g, cap, cur', rfl, hg, hk1, hnc, hcm, by rw [hk2]; exact HO.out.2.1, ?_⟩⟩
        rw [← hk3, size_flatK, hz']
        simp [kCel]
      · have := flat_reps d'
        rw [hl'] at this
        exact this
    have HB2 : Hid (Below w.heap.size w (sortWorldK Cel.enc 9 W g 0 n d' os)) := sorted_below hBW hg n d' os
    clear hk1 hk2 hk3 hl' hz' hBW hgW hfl hfs hsz hW
    generalize sortWorldK Cel.enc 9 W g 0 n d' os = w3 at HF HB2 ⊢
    go_wp2_with fail
    go_ret
    exact ⟨_, rfl, HF.out, HB2.out⟩
end Go.Proofs.Ytjbfjgaghjggpaa.Srt
