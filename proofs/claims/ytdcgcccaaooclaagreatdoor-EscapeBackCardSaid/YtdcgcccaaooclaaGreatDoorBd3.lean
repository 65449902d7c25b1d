/- 11 texts in one file: Bld, Xcl, Xpd, WRepsOne, Ees, Exp, Awk, Rfe, Pla, Lw6, Lw5. -/
import Derived.Test.YtdcgcccaaooclaaGreatDoorBd2
import Derived.Lib.Hide
import Derived.Defers
import Derived.Recover
import Derived.Laws.Pointers
import Derived.Laws.Cover4
import Derived.Test.YtdcgcccaaooclaaGreatDoorWWords
import Derived.Outline
section
/- strings.Builder at this program, whose copyCheck ends in a refusal where the shelf's body panics: copyCheck, WriteString, WriteByte by hand, after the shelf's proofs. -/
set_option linter.unusedVariables false
set_option maxRecDepth 20000
set_option linter.unusedSimpArgs false
set_option maxRecDepth 20000
namespace Go.Proofs.YtdcgcccaaooclaaGreatDoor.Bld
open Go.RowKit Go.Shelf
theorem X : Builder.Extra Tryz.prog Tryz.lays169_ren := Tryz.Builder_Extra_169
theorem sizeB : (Tryz.prog.info? 41).map (·.size) = some 2 := X.sizeBuilder
theorem liesB : liesAt Tryz.prog Tryz.prog.depth 41 (2 / Tryz.prog.cellsOf 41) 0 41 1 = true := X.liesBuilder
theorem tP : Tryz.prog.underlying 39 = some (TypeDesc.pointer 41) := Tryz.lays169.t70
set_option maxHeartbeats 1000000 in
theorem copyCheck_used (b : Nat) (w : World) (h0 : w.cell? ⟨b, 0, none⟩ = some (.pointer (some ⟨b, 0, none⟩))) :
    Calls Tryz.prog 31 #[.pointer (some ⟨b, 0, none⟩)] w fun e w' => e = .returned (.tuple #[]) ∧ w' = w := by
  obtain ⟨j, hj, _⟩ := Option.map_eq_some_iff.1 sizeB
  go_enter Tryz.func31, Tryz.ntmps31
  go_wp2_with fail
  rw [Lib.run_neq_ptr_same w _ tP hj]
  go_wp2_with fail
  go_end0
  exact ⟨rfl, rfl⟩
set_option maxHeartbeats 1000000 in
theorem copyCheck_fresh (b : Nat) (w : World) (h0 : w.cell? ⟨b, 0, none⟩ = some (.pointer none)) (hsh : w.shape? b = some (41, 2)) (hfz : w.frozen? ⟨b, 0, none⟩ = false) :
    Calls Tryz.prog 31 #[.pointer (some ⟨b, 0, none⟩)] w fun e w' => e = .returned (.tuple #[]) ∧ w' = w.setCell ⟨b, 0, none⟩ (.pointer (some ⟨b, 0, none⟩)) := by
  obtain ⟨j, hj, hjs⟩ := Option.map_eq_some_iff.1 sizeB
  have tU : Tryz.prog.underlying 80 = some TypeDesc.unsafePointer := by kernel_rfl
  go_enter Tryz.func31, Tryz.ntmps31
  go_wp2_with fail
  rw [Lib.run_to_unsafe w ⟨b, 0, none⟩ tP tU hj (by rw [hjs]; decide) hsh (Nat.zero_lt_succ 1)]
  simp only [Result.andThen]
  rw [Oper.upon_value]
  go_wp2_with fail
  rw [run_callFunc_extern Tryz.func42 (by kernel_rfl) (by kernel_rfl) (by kernel_rfl) (e := Extern.AbiNoEscape.same) (by kernel_rfl)]
  rw [Lib.run_noEscape]
  simp only [Result.andThen]
  rw [Oper.upon_value]
  go_wp2_with fail
  rw [Lib.run_from_unsafe w ⟨b, 0, none⟩ tU tP hj hsh liesB]
  simp only [Result.andThen]
  rw [Oper.upon_value]
  go_wp2_with fail
  go_end0
  exact ⟨rfl, rfl⟩
theorem copyCheck (B b : Nat) (bs : List Value) (w : World) (h : Lib.IsBuilderF 41 5 B b bs w) :
    Calls Tryz.prog 31 #[.pointer (some ⟨b, 0, none⟩)] w fun e w' => e = .returned (.tuple #[]) ∧ (Lib.BuilderAtF 41 5 B b (.pointer (some ⟨b, 0, none⟩)) bs w' ∧ Below B w w' ∧ Lib.OthersKept 5 (some b) w w') := by
  rcases h with h | h
  · refine (copyCheck_fresh b w h.cell0 h.shape h.frozen0).mono ?_
    rintro e w' ⟨rfl, rfl⟩
    exact ⟨rfl, h.used _, (Below.refl B w).setCell (p := ⟨b, 0, none⟩) h.1 _, (Lib.OthersKept.refl _ _ w).setCell ⟨b, 0, none⟩ rfl _⟩
  · refine (copyCheck_used b w h.cell0).mono ?_
    rintro e w' ⟨rfl, rfl⟩
    exact ⟨rfl, h, Below.refl B _, Lib.OthersKept.refl _ _ _⟩
set_option maxHeartbeats 1000000 in
theorem writeString (B b : Nat) (bs : List Value) (s : ByteArray) (w : World) (h : Lib.IsBuilderF 41 5 B b bs w) (hlen : bs.length + s.size ≤ 140737488355328) (hBw : B ≤ w.heap.size) :
    Calls Tryz.prog 23 #[.pointer (some ⟨b, 0, none⟩), .string s] w fun e w' => e = .returned (.tuple #[.int .i64 s.size, .nilIface]) ∧ (Lib.BuilderAtF 41 5 B b (.pointer (some ⟨b, 0, none⟩)) (bs ++ Lib.strCells s) w' ∧ Below B w w' ∧ Lib.OthersKept 5 (some b) w w') := by
  obtain ⟨i0, hi, hz0, hz1, hz2⟩ := info_parts X.infoByte
  have t9 : Tryz.prog.underlying 9 = some TypeDesc.string := by kernel_rfl
  go_enter Tryz.func23, Tryz.ntmps23
  go_wp2_with (go_at_call 31; refine (copyCheck B b bs _ h).mono ?_)
  rintro e w1 ⟨rfl, h1, hb1, hk1⟩
  obtain ⟨hB, v, hbk, hown, hne⟩ := h1
  have c0 : w1.cell? ⟨b, 0, none⟩ = some (.pointer (some ⟨b, 0, none⟩)) := by rw [Lib.cell_of_heap hbk]; rfl
  have c1 : w1.cell? ⟨b, 1, none⟩ = some v := by rw [Lib.cell_of_heap hbk]; rfl
  go_wp2_with (at_builtin; refine Lib.wpList_append_own_stringF _ rfl _ _ 30 9 rfl B 5 i0 Tryz.lays169.t37 t9 hi hz0 hz1 hz2 _ _ _ rfl hown s rfl ?c3 ?c4 ?c5 ?_)
  case c3 => unfold maxLen; omega
  case c4 => omega
  case c5 => have := hb1.size; omega
  intro v' w2 hown' hgrow _
  have hlt : b < w1.heap.size := by
    rcases Nat.lt_or_ge b w1.heap.size with h' | h'
    · exact h'
    · simp [Array.getElem?_eq_none h'] at hbk
  have hb2 : w2.heap[b]? = some (.cells #[.pointer (some ⟨b, 0, none⟩), v] 41 (0, 0)) := by
    rw [hgrow.block b hlt (fun e => hne e.symm)]
    exact hbk
  have d0 : w2.cell? ⟨b, 0, none⟩ = some (.pointer (some ⟨b, 0, none⟩)) := by rw [Lib.cell_of_heap hb2]; rfl
  have d1 : w2.cell? ⟨b, 1, none⟩ = some v := by rw [Lib.cell_of_heap hb2]; rfl
  have f1 : w2.frozen? ⟨b, 1, none⟩ = false := Lib.frozen_of_heap hb2 1
  obtain ⟨ao, n', cap, rfl⟩ : ∃ ao n' cap, v' = .slice ao n' cap := by
    rcases hown'.2 with ⟨hv, _⟩ | ⟨g, cap, cur, fz, hv, _⟩
    · exact ⟨_, _, _, hv⟩
    · exact ⟨_, _, _, hv⟩
  go_wp2_with fail
  go_ret2
  refine ⟨rfl, ?_, ?_, (hk1.grown hgrow (Lib.ownsRowF_kind hown)).setCell ⟨b, 1, none⟩ rfl _⟩
  · exact Lib.BuilderAtF.put (T := 41) (e := 5) hB hb2 (bs' := bs ++ Lib.strCells s) (by simpa [Lib.strCells_length] using hown') X.neB5
  · exact (hb1.grown hgrow (by have := hb1.size; omega) (fun k hk => (hown.lt k hk).1)).setCell (p := ⟨b, 1, none⟩) hB _
end Go.Proofs.YtdcgcccaaooclaaGreatDoor.Bld
end
section
/- escape.expanded's deferred closure: of a frame that panics with ErrRef, of a frame that returns. -/
set_option linter.unusedVariables false
set_option linter.unusedSimpArgs false
set_option maxRecDepth 20000
namespace Go.Proofs.YtdcgcccaaooclaaGreatDoor.Rep
open Go.RowKit Go.Lib Go.Proofs.YtdcgcccaaooclaaGreatDoorW.PrintWords Go.Proofs.YtdcgcccaaooclaaGreatDoorW.PrintLast Go.Proofs.YtdcgcccaaooclaaGreatDoorW.PrintMore
theorem frz {w : World} {b : Nat} {cs : Array Value} {T : TypeId} (h : w.heap[b]? = some (.cells cs T (0, 0))) (i : Nat) : w.frozen? ⟨b, i, none⟩ = false := by
  unfold World.frozen?
  show (match w.heap[b]? with | some (.cells _ _ (lo, hi)) => decide (lo ≤ i) && decide (i < hi) | _ => false) = false
  rw [h]
  simp
theorem assert60 (w : World) : (Instr.typeAssert (.iface 23 (.int .i64 60)) 20 23 false).run Tryz.prog w = .ok (.int .i64 60) w := by kernel_rfl
theorem neq60 (w : World) : (binOp .neq 20 (.iface 23 (.int .i64 60)) .nilIface).run Tryz.prog w = .ok (.bool true) w := by kernel_rfl
theorem neq00 (w : World) : (binOp .neq 20 .nilIface .nilIface).run Tryz.prog w = .ok (.bool false) w := by kernel_rfl
/-- What the closure leaves. -/
structure Ck (p q : Nat) (w w' : World) : Prop where
  c4 : w'.heap[p]? = some (.cells #[.string ⟨#[]⟩] 9 (0, 0))
  c5 : w'.heap[q]? = some (.cells #[.int .i64 60] 23 (0, 0))
  os : w'.os = w.os
  tape : w'.tape = w.tape
  output : w'.output = w.output
  size : w.heap.size ≤ w'.heap.size
  block : ∀ k, k < w.heap.size → k ≠ p → k ≠ q → w'.heap[k]? = w.heap[k]?
theorem ck_mk {p q : Nat} {x y : Value} {w : World} (hc : w.heap[p]? = some (.cells #[x] 9 (0, 0))) (hd : w.heap[q]? = some (.cells #[y] 23 (0, 0))) (hne : p ≠ q) :
    Ck p q w ((w.setCell ⟨p, 0, none⟩ (.string ⟨#[]⟩)).setCell ⟨q, 0, none⟩ (.int .i64 60)).drew := by
  have h1 := blk_put hc 0 (.string ⟨#[]⟩) rfl
  have h2 := (Below.heap_setCell w ⟨p, 0, none⟩ (.string ⟨#[]⟩) q (Ne.symm hne)).trans hd
  have h3 := blk_put h2 0 (.int .i64 60) rfl
  have h4 := (Below.heap_setCell (w.setCell ⟨p, 0, none⟩ (.string ⟨#[]⟩)) ⟨q, 0, none⟩ (.int .i64 60) p hne).trans h1
  exact ⟨h4, h3, rfl, rfl, rfl, by simp [World.setCell, World.drew], fun k _ hp hq => (Below.heap_setCell _ ⟨q, 0, none⟩ _ k hq).trans (Below.heap_setCell w ⟨p, 0, none⟩ _ k hp)⟩
set_option maxHeartbeats 1000000 in
theorem catch_some (p q : Nat) (x y : Value) (older : List PanicEntry) (w : World) (hc : w.heap[p]? = some (.cells #[x] 9 (0, 0))) (hd : w.heap[q]? = some (.cells #[y] 23 (0, 0))) (hne : p ≠ q) :
    CallsD Tryz.prog 21 #[.pointer (some ⟨p, 0, none⟩), .pointer (some ⟨q, 0, none⟩)] (.panicking ({ v := .iface 23 (.int .i64 60), recovered := false } :: older)) w fun e u' w' =>
      e = .returned (.tuple #[]) ∧ u' = .panicking ({ v := .iface 23 (.int .i64 60), recovered := true } :: older) ∧ Ck p q w w' := by
  have hn := neq60
  have ha := assert60
  have c0 : w.cell? ⟨p, 0, none⟩ = some x := blk_cell hc 0
  have f0 := frz hc 0
  have c1 : w.cell? ⟨q, 0, none⟩ = some y := blk_cell hd 0
  have f1 := frz hd 0
  refine callsD_of_wpS Tryz.func21 rfl fun c₀ cs hu => ?_
  apply wpS_seq
  apply wpS_region
  simp [wpOpsS, go_sem, recoverD, hu, Tryz.ntmps21, Exit.thenS]
  apply wpS_seq
  apply wpS_region
  simp [wpOpsS, go_sem, hn, Exit.thenS]
  refine wpS_cond (t := true) (by simp [Act.eval, Array.replicate]) ?_
  simp only [if_true]
  refine wpS_of_wp ?_
  rw [show (#[Value.pointer (some ⟨p, 0, none⟩), Value.pointer (some ⟨q, 0, none⟩)] ++ ((((Array.replicate 6 undef).setIfInBounds 1 (Value.iface 23 (Value.int IntKind.i64 60))).setIfInBounds 0 (Value.iface 23 (Value.int IntKind.i64 60))).setIfInBounds 2 (Value.iface 23 (Value.int IntKind.i64 60))).setIfInBounds 3 (Value.bool true)) = #[Value.pointer (some ⟨p, 0, none⟩), Value.pointer (some ⟨q, 0, none⟩), .iface 23 (.int .i64 60), .iface 23 (.int .i64 60), .iface 23 (.int .i64 60), .bool true, undef, undef] from rfl]
  clear hn
  go_region
  all_goals (go_wp2_with fail)
  exact ⟨rfl, _, rfl, _, results_none rfl _ _ _, rfl, rfl, ck_mk hc hd hne⟩
theorem catch_idle (p q : Addr) (w : World) :
    CallsD Tryz.prog 21 #[.pointer (some p), .pointer (some q)] .returning w fun e u' w' => e = .returned (.tuple #[]) ∧ u' = .returning ∧ w' = w := by
  have hn := neq00
  refine callsD_of_wpS Tryz.func21 rfl fun c₀ cs hu => ?_
  apply wpS_seq
  apply wpS_region
  simp [wpOpsS, go_sem, recoverD, hu, Tryz.ntmps21, Exit.thenS]
  apply wpS_seq
  apply wpS_region
  simp [wpOpsS, go_sem, hn, Exit.thenS]
  refine wpS_cond (t := false) (by simp [Act.eval, Array.replicate]) ?_
  simp only [Bool.false_eq_true, if_false]
  refine wpS_of_wp (wp_skip ?_)
  cases c₀
  simp_all [bodyPostS, results, Tryz.results21]
end Go.Proofs.YtdcgcccaaooclaaGreatDoor.Rep
end
section
/- escape.expanded: a text without its references, or ErrRef; over any function on the texts between. -/
set_option linter.unusedVariables false
set_option linter.unusedSimpArgs false
set_option maxRecDepth 20000
namespace Go.Proofs.YtdcgcccaaooclaaGreatDoor.Rep
open Go.RowKit Go.Lib Go.Proofs.YtdcgcccaaooclaaGreatDoorW.PrintWords Go.Proofs.YtdcgcccaaooclaaGreatDoorW.PrintLast Go.Proofs.YtdcgcccaaooclaaGreatDoorW.PrintMore
/-- What stays, but for one block. -/
structure Ko (rb : Option Nat) (B : Nat) (w w' : World) : Prop where
  os : w'.os = w.os
  tape : w'.tape = w.tape
  output : w'.output = w.output
  size : w.heap.size ≤ w'.heap.size
  block : ∀ k, k < B → some k ≠ rb → w'.heap[k]? = w.heap[k]?
theorem Ko.of {rb : Option Nat} {B : Nat} {w w' : World} (h : Below B w w') : Ko rb B w w' := ⟨h.os, h.tape, h.output, h.size, fun k hk _ => h.block k hk⟩
theorem Ko.trans {rb : Option Nat} {B : Nat} {a b c : World} (h : Ko rb B a b) (k : Ko rb B b c) : Ko rb B a c :=
  ⟨k.os.trans h.os, k.tape.trans h.tape, k.output.trans h.output, Nat.le_trans h.size k.size, fun i hi hn => (k.block i hi hn).trans (h.block i hi hn)⟩
theorem Ko.mono {rb : Option Nat} {B B' : Nat} {a b : World} (h : Ko rb B a b) (hB : B' ≤ B) : Ko rb B' a b :=
  ⟨h.os, h.tape, h.output, h.size, fun k hk hn => h.block k (Nat.lt_of_lt_of_le hk hB) hn⟩
/-- What a builder's writes keep: whatever is no builder and no row of bytes. -/
def Kc (B : Nat) (w w' : World) : Prop := Below B w w' ∧ ∀ (k : Nat) (cs : Array Value) (T : TypeId) (fz : Nat × Nat), w.heap[k]? = some (Obj.cells cs T fz) → T ≠ 5 → T ≠ 41 → T ≠ 9 → T ≠ 23 → w'.heap[k]? = some (Obj.cells cs T fz)
theorem kc_of {B b : Nat} {bs : List Value} {w w' : World} (hb : Lib.IsBuilderF 41 5 B b bs w) (h : Below B w w') (hk : Lib.OthersKept 5 (some b) w w') : Kc B w w' := by
  refine ⟨h, fun k cs T fz hc h5 h41 _ _ => hk k _ hc ?_ ?_⟩
  · intro e
    obtain rfl : k = b := by injection e
    rcases hb with hb | hb
    all_goals
      obtain ⟨_, v, hv, _⟩ := hb
      rw [hc] at hv
      injection hv with hv
      injection hv with _ e1 _
      exact h41 e1
  · intro c fz' e
    injection e with _ e1 _
    exact h5 e1
theorem builder_keep {T e : TypeId} {B b : Nat} {bs : List Value} {w w' : World} (h : Lib.IsBuilderF T e B b bs w) (hk : ∀ k, B ≤ k → k < w.heap.size → w'.heap[k]? = w.heap[k]?) : Lib.IsBuilderF T e B b bs w' := by
  have H : ∀ p, Lib.BuilderAtF T e B b p bs w → Lib.BuilderAtF T e B b p bs w' := fun p h => by
    obtain ⟨hB, v, hb, hown, hne⟩ := h
    refine ⟨hB, v, (hk b hB (blk_lt hb)).trans hb, ⟨hown.1, ?_⟩, hne⟩
    rcases hown.2 with hn | ⟨g, cap, cur, fz, hv, hbg, hg, rest⟩
    · exact .inl hn
    · exact .inr ⟨g, cap, cur, fz, hv, hbg, (hk g hbg (blk_lt hg)).trans hg, rest⟩
  exact h.elim (fun x => .inl (H _ x)) (fun x => .inr (H _ x))
/-- A text cut at a byte: the whole, or two texts and the byte. -/
theorem cut_cases (s : ByteArray) (c : UInt8) : (At.cutV s c = (s, ⟨#[]⟩, false)) ∨ ∃ a b, At.cutV s c = (a, b, true) ∧ a.size + b.size + 1 = s.size := by
  unfold At.cutV
  split
  · rename_i h
    refine .inr ⟨_, _, rfl, ?_⟩
    obtain ⟨o, ho⟩ : ∃ o : Nat, Lib.indexByte s.data.toList c = o := ⟨_, (Int.toNat_of_nonneg h).symm⟩
    have h2 := (Lib.indexByte_some ho).1
    have h3 := (List.getElem?_eq_some_iff.1 h2).1
    rw [Array.length_toList] at h3
    have h4 : o < s.size := h3
    rw [ho]
    simp only [ByteArray.size_extract, Int.toNat_natCast]
    omega
  · exact .inl rfl
/-- What expanded makes of a text. -/
def expR (pf : ByteArray → ByteArray) : Nat → ByteArray → List UInt8 → Option (List UInt8)
  | 0, _, _ => none
  | k + 1, s, acc =>
    match (At.cutV s 38).2.2 with
    | false => some (acc ++ (pf (At.cutV s 38).1).data.toList)
    | true =>
      match (At.cutV (At.cutV s 38).2.1 59).2.2 with
      | false => none
      | true =>
        match namR (At.cutV (At.cutV s 38).2.1 59).1 with
        | none => none
        | some t => expR pf k (At.cutV (At.cutV s 38).2.1 59).2.1 (acc ++ (pf (At.cutV s 38).1).data.toList ++ t.data.toList)
/-- How expanded answers. -/
def OutX : Option (List UInt8) → Ending
  | some l => .returned (.tuple #[.string ⟨l.toArray⟩, .int .i64 0])
  | none => .returned (.tuple #[.string ⟨#[]⟩, .int .i64 60])
theorem namR_size {s t : ByteArray} (h : namR s = some t) : t.size ≤ 4 := by
  have hc : ∀ o, chrV o = some t → t.size ≤ 4 := fun o ho => by
    unfold chrV at ho
    split at ho
    · split at ho
      · injection ho with ho; rw [← ho]; exact encode_size_le _
      · cases ho
    · cases ho
  have hd : ∀ b d, digR b d = some t → t.size ≤ 4 := fun b d ho => by
    unfold digR at ho
    split at ho
    · exact hc _ ho
    · cases ho
  unfold namR at h
  split at h
  · injection h with h; rw [← h]; exact encode_size_le _
  · unfold refR at h
    split at h
    · exact hd _ _ h
    · exact hd _ _ h
    · cases h
/-- The plain function. -/
structure PF (g : Nat) (pre : Array Value) (pf : ByteArray → ByteArray) (rb : Option Nat) (B : Nat) (I : World → Prop) : Prop where
  call : ∀ t W, t.size ≤ 1000000000 → I W → B ≤ W.heap.size → Calls Tryz.prog g (pre.push (.string t)) W fun e w' => e = .returned (.string (pf t)) ∧ I w' ∧ Ko rb W.heap.size W w'
  enter : ∀ args w, (callFunc g args).run Tryz.prog w = .ok (.enter g args) w
  below : ∀ W W', I W → Below W.heap.size W W' → I W'
  kept : ∀ W W', I W → Kc B W W' → I W'
  size : ∀ t, (pf t).size ≤ t.size
  low : ∀ k, rb = some k → k < B
  no1 : rb ≠ some 1
  no2 : rb ≠ some 2
/-- The state in the loop. -/
structure St (rb : Option Nat) (I : World → Prop) (acc : List UInt8) (w wr : World) : Prop where
  c4 : wr.heap[w.heap.size]? = some (.cells #[.string ⟨#[]⟩] 9 (0, 0))
  c5 : wr.heap[w.heap.size + 1]? = some (.cells #[.int .i64 0] 23 (0, 0))
  bl : Lib.IsBuilderF 41 5 w.heap.size (w.heap.size + 2) (Lib.byteCells acc) wr
  fr : Ko rb w.heap.size w wr
  inv : I wr
theorem St.below {rb : Option Nat} {I : World → Prop} {acc : List UInt8} {w wr w' : World} {g : Nat} {pre : Array Value} {pf : ByteArray → ByteArray} (P : PF g pre pf rb w.heap.size I) (h : St rb I acc w wr) (hb : Below wr.heap.size wr w') : St rb I acc w w' :=
  ⟨blk_below h.c4 hb, blk_below h.c5 hb, builder_keep h.bl (fun k _ hk => hb.block k hk), h.fr.trans (Ko.of (hb.mono h.fr.size)), P.below _ _ h.inv hb⟩
theorem St.plain {rb : Option Nat} {I : World → Prop} {acc : List UInt8} {w wr w' : World} {g : Nat} {pre : Array Value} {pf : ByteArray → ByteArray} (P : PF g pre pf rb w.heap.size I) (h : St rb I acc w wr) (hI : I w') (hb : Ko rb wr.heap.size wr w') : St rb I acc w w' := by
  have hk : ∀ k, w.heap.size ≤ k → k < wr.heap.size → w'.heap[k]? = wr.heap[k]? := fun k h1 h2 => hb.block k h2 (fun e => by have := P.low k e.symm; omega)
  exact ⟨(hk _ (Nat.le_refl _) (blk_lt h.c4)).trans h.c4, (hk _ (by omega) (blk_lt h.c5)).trans h.c5, builder_keep h.bl hk, h.fr.trans (hb.mono h.fr.size), hI⟩
theorem St.wrote {rb : Option Nat} {I : World → Prop} {acc acc' : List UInt8} {w wr w' : World} {g : Nat} {pre : Array Value} {pf : ByteArray → ByteArray} (P : PF g pre pf rb w.heap.size I) (h : St rb I acc w wr) (hl : Lib.IsBuilderF 41 5 w.heap.size (w.heap.size + 2) (Lib.byteCells acc') w') (hb : Below w.heap.size wr w') (ho : Lib.OthersKept 5 (some (w.heap.size + 2)) wr w') : St rb I acc' w w' := by
  have hk := kc_of h.bl hb ho
  exact ⟨ho _ _ h.c4 (fun e => by injection e; omega) (fun c fz e => by injection e with _ e _; cases e), ho _ _ h.c5 (fun e => by injection e; omega) (fun c fz e => by injection e with _ e _; cases e), hl, h.fr.trans (Ko.of hb), P.kept _ _ h.inv hk⟩
theorem St.laid {rb : Option Nat} {I : World → Prop} {acc : List UInt8} {w wr : World} {g : Nat} {pre : Array Value} {pf : ByteArray → ByteArray} (P : PF g pre pf rb w.heap.size I) (h : St rb I acc w wr) (hE : LaidE w) : LaidE wr := by
  obtain ⟨⟨t1, p1, h1⟩, t2, p2, h2⟩ := hE
  have hk : ∀ {k o v}, some k ≠ rb → w.cell? ⟨k, o, none⟩ = some v → wr.cell? ⟨k, o, none⟩ = some v := fun {k o v} hn hv => by
    have hlt := World.block_lt_of_cell? w _ hv
    have hh := h.fr.block k hlt hn
    rw [← hv]
    unfold World.cell?
    simp only [hh]
  exact ⟨⟨t1, p1, hk (Ne.symm P.no1) h1⟩, t2, p2, hk (Ne.symm P.no2) h2⟩
theorem alo (w : World) (o : Obj) (k : Nat) (h : k < w.heap.size) : (w.alloc o).heap[k]? = w.heap[k]? := by
  exact heap_alloc_old w o h
theorem bl_low {T e : TypeId} {B B' b : Nat} {p : Value} {bs : List Value} {w : World} (h : Lib.BuilderAtF T e B b p bs w) (hB : B' ≤ B) : Lib.BuilderAtF T e B' b p bs w := by
  obtain ⟨h1, v, hv, ho, hn⟩ := h
  refine ⟨Nat.le_trans hB h1, v, hv, ⟨ho.1, ?_⟩, hn⟩
  rcases ho.2 with h | ⟨g, cap, cur, fz, hv, hbg, rest⟩
  · exact .inl h
  · exact .inr ⟨g, cap, cur, fz, hv, Nat.le_trans hB hbg, rest⟩
theorem St.write {rb : Option Nat} {I : World → Prop} {acc : List UInt8} {w wr : World} {g : Nat} {pre : Array Value} {pf : ByteArray → ByteArray} (P : PF g pre pf rb w.heap.size I) (h : St rb I acc w wr) (s : ByteArray) (hl : acc.length + s.size ≤ 140737488355328) :
    Calls Tryz.prog 23 #[.pointer (some ⟨w.heap.size + 2, 0, none⟩), .string s] wr fun e w' => e = .returned (.tuple #[.int .i64 s.size, .nilIface]) ∧ St rb I (acc ++ s.data.toList) w w' := by
  refine (Bld.writeString w.heap.size (w.heap.size + 2) (Lib.byteCells acc) s wr h.bl (by rw [show (Lib.byteCells acc).length = acc.length by simp [Lib.byteCells]]; exact hl) h.fr.size).mono ?_
  rintro e w' ⟨rfl, h1, h2, h3⟩
  refine ⟨rfl, h.wrote P ?_ h2 h3⟩
  rw [Lib.byteCells_append, ← Lib.strCells_eq]
  exact .inr h1
theorem St.read {rb : Option Nat} {I : World → Prop} {acc : List UInt8} {w wr : World} {g : Nat} {pre : Array Value} {pf : ByteArray → ByteArray} (P : PF g pre pf rb w.heap.size I) (h : St rb I acc w wr) :
    Calls Tryz.prog 24 #[.pointer (some ⟨w.heap.size + 2, 0, none⟩)] wr fun e w' => e = .returned (.string ⟨acc.toArray⟩) ∧ St rb I acc w w' := by
  refine (Tryz.Builder_String_any_k w.heap.size (w.heap.size + 2) acc wr h.bl h.fr.size).mono ?_
  rintro e w' ⟨rfl, h1, h2, h3⟩
  exact ⟨rfl, h.wrote P h1 h2 h3⟩
/-- The answer laid. -/
theorem St.ret {rb : Option Nat} {I : World → Prop} {acc : List UInt8} {w wr : World} {g : Nat} {pre : Array Value} {pf : ByteArray → ByteArray} (P : PF g pre pf rb w.heap.size I) (h : St rb I acc w wr) (V : ByteArray) :
    ∃ W, W = (wr.setCell ⟨w.heap.size, 0, none⟩ (.string V)).setCell ⟨w.heap.size + 1, 0, none⟩ (.int .i64 0) ∧ W.cell? ⟨w.heap.size, 0, none⟩ = some (.string V) ∧ W.cell? ⟨w.heap.size + 1, 0, none⟩ = some (.int .i64 0) ∧ I W ∧ Ko rb w.heap.size w W := by
  have h1 := blk_put h.c4 0 (.string V) rfl
  have h2 := (Below.heap_setCell wr ⟨w.heap.size, 0, none⟩ (.string V) (w.heap.size + 1) (by show w.heap.size + 1 ≠ w.heap.size; omega)).trans h.c5
  have h3 := blk_put h2 0 (.int .i64 0) rfl
  have h4 := (Below.heap_setCell (wr.setCell ⟨w.heap.size, 0, none⟩ (.string V)) ⟨w.heap.size + 1, 0, none⟩ (.int .i64 0) w.heap.size (by show w.heap.size ≠ w.heap.size + 1; omega)).trans h1
  have hb := ((Below.refl w.heap.size wr).setCell (p := ⟨w.heap.size, 0, none⟩) (Nat.le_refl _) (.string V)).setCell (p := ⟨w.heap.size + 1, 0, none⟩) (Nat.le_succ _) (.int .i64 0)
  refine ⟨_, rfl, blk_cell h4 0, blk_cell h3 0, P.kept _ _ h.inv ⟨hb, fun k cs T fz hc _ _ h9 h23 => ?_⟩, h.fr.trans (Ko.of hb)⟩
  have n1 : k ≠ w.heap.size := fun e => by rw [e, h.c4] at hc; injection hc with hc; injection hc with _ e _; exact h9 e.symm
  have n2 : k ≠ w.heap.size + 1 := fun e => by rw [e, h.c5] at hc; injection hc with hc; injection hc with _ e _; exact h23 e.symm
  exact ((Below.heap_setCell _ ⟨w.heap.size + 1, 0, none⟩ _ k n2).trans (Below.heap_setCell wr ⟨w.heap.size, 0, none⟩ _ k n1)).trans hc
/-- The refusal laid. -/
theorem St.refuse {rb : Option Nat} {I : World → Prop} {acc : List UInt8} {w wr W : World} {g : Nat} {pre : Array Value} {pf : ByteArray → ByteArray} (P : PF g pre pf rb w.heap.size I) (h : St rb I acc w wr) (c : Ck w.heap.size (w.heap.size + 1) wr W) :
    W.cell? ⟨w.heap.size, 0, none⟩ = some (.string ⟨#[]⟩) ∧ W.cell? ⟨w.heap.size + 1, 0, none⟩ = some (.int .i64 60) ∧ I W ∧ Ko rb w.heap.size w W := by
  have hs := h.fr.size
  have hb : Below w.heap.size wr W := ⟨c.os, c.tape, c.output, c.size, fun k hk => c.block k (by omega) (by omega) (by omega)⟩
  refine ⟨blk_cell c.c4 0, blk_cell c.c5 0, P.kept _ _ h.inv ⟨hb, fun k cs T fz hc _ _ h9 h23 => ?_⟩, h.fr.trans (Ko.of hb)⟩
  have n1 : k ≠ w.heap.size := fun e => by rw [e, h.c4] at hc; injection hc with hc; injection hc with _ e _; exact h9 e.symm
  have n2 : k ≠ w.heap.size + 1 := fun e => by rw [e, h.c5] at hc; injection hc with hc; injection hc with _ e _; exact h23 e.symm
  exact (c.block k (blk_lt hc) n1 n2).trans hc
theorem expR_end {pf : ByteArray → ByteArray} {k : Nat} {x : ByteArray} {acc : List UInt8} (h : At.cutV x 38 = (x, ⟨#[]⟩, false)) : expR pf (k + 1) x acc = some (acc ++ (pf x).data.toList) := by
  simp only [expR, h]
theorem expR_no {pf : ByteArray → ByteArray} {k : Nat} {x a b : ByteArray} {acc : List UInt8} (h : At.cutV x 38 = (a, b, true)) (h2 : At.cutV b 59 = (b, ⟨#[]⟩, false)) : expR pf (k + 1) x acc = none := by
  simp only [expR, h, h2]
theorem expR_bad {pf : ByteArray → ByteArray} {k : Nat} {x a b c d : ByteArray} {acc : List UInt8} (h : At.cutV x 38 = (a, b, true)) (h2 : At.cutV b 59 = (c, d, true)) (h3 : namR c = none) : expR pf (k + 1) x acc = none := by
  simp only [expR, h, h2, h3]
theorem expR_go {pf : ByteArray → ByteArray} {k : Nat} {x a b c d t : ByteArray} {acc : List UInt8} (h : At.cutV x 38 = (a, b, true)) (h2 : At.cutV b 59 = (c, d, true)) (h3 : namR c = some t) : expR pf (k + 1) x acc = expR pf k d (acc ++ (pf a).data.toList ++ t.data.toList) := by
  simp only [expR, h, h2, h3]
/-- More fuel than bytes turns nothing. -/
theorem expR_fuel (pf : ByteArray → ByteArray) : ∀ (k : Nat) (x : ByteArray) (acc : List UInt8) (m : Nat), x.size < k → x.size < m → expR pf k x acc = expR pf m x acc := by
  intro k
  induction k with
  | zero => intro x acc m h; omega
  | succ k ih =>
    intro x acc m hk hm
    obtain ⟨m, rfl⟩ : ∃ m', m = m' + 1 := ⟨m - 1, by omega⟩
    rcases cut_cases x 38 with h | ⟨a, b, h, hsz⟩
    · rw [expR_end h, expR_end h]
    · rcases cut_cases b 59 with h2 | ⟨c, d, h2, hsz2⟩
      · rw [expR_no h h2, expR_no h h2]
      · cases h3 : namR c with
        | none => rw [expR_bad h h2 h3, expR_bad h h2 h3]
        | some t => rw [expR_go h h2 h3, expR_go h h2 h3]; exact ih _ _ _ (by omega) (by omega)
theorem cut_c (x : ByteArray) (c : UInt8) (hx : x.size ≤ 1000000000) (w : World) :
    Calls Tryz.prog 22 #[.string x, .string ⟨#[c]⟩] w fun e w' => e = .returned (.tuple #[.string (At.cutV x c).1, .string (At.cutV x c).2.1, .bool (At.cutV x c).2.2]) ∧ Below w.heap.size w w' :=
  At.strings_Cut.calls x ⟨#[c]⟩ _ _ _ w (by unfold At.strings_Cut.f; rw [if_pos (by omega)]; rfl)
theorem st_new {rb : Option Nat} {I : World → Prop} {g : Nat} {pre : Array Value} {pf : ByteArray → ByteArray} (w : World) (P : PF g pre pf rb w.heap.size I) (hI : I w) :
    St rb I [] w (((w.alloc (.cells #[.string ⟨#[]⟩] 9)).alloc (.cells #[.int .i64 0] 23)).alloc (.cells #[.pointer none, .slice none 0 0] 41)) := by
  have hb1 := (Below.refl w.heap.size w).alloc (Nat.le_refl _) (.cells #[.string ⟨#[]⟩] 9)
  have hb2 := hb1.alloc hb1.size (.cells #[.int .i64 0] 23)
  have hb3 := hb2.alloc hb2.size (.cells #[.pointer none, .slice none 0 0] 41)
  have z1 : (w.alloc (.cells #[.string ⟨#[]⟩] 9)).heap.size = w.heap.size + 1 := by simp
  have z2 : ((w.alloc (.cells #[.string ⟨#[]⟩] 9)).alloc (.cells #[.int .i64 0] 23)).heap.size = w.heap.size + 2 := by simp
  have h4 := heap_alloc_new w (.cells #[.string ⟨#[]⟩] 9)
  have h5 := heap_alloc_new (w.alloc (.cells #[.string ⟨#[]⟩] 9)) (.cells #[.int .i64 0] 23)
  rw [z1] at h5
  have hf := Lib.IsBuilderF.of (Lib.fresh_isBuilder 41 5 ((w.alloc (.cells #[.string ⟨#[]⟩] 9)).alloc (.cells #[.int .i64 0] 23)))
  rw [z2] at hf
  refine ⟨?_, ?_, ?_, Ko.of hb3, P.below _ _ hI hb3⟩
  · exact (alo _ _ _ (by rw [z2]; omega)).trans ((alo _ _ _ (by rw [z1]; omega)).trans h4)
  · exact (alo _ _ _ (by rw [z2]; omega)).trans h5
  · exact hf.elim (fun h => .inl (bl_low h (by omega))) (fun h => .inr (bl_low h (by omega)))
set_option maxHeartbeats 4000000 in
theorem expanded_c (g : Nat) (pre : Array Value) (pf : ByteArray → ByteArray) (rb : Option Nat) (I : World → Prop) (s : ByteArray) (hs : s.size ≤ 1000000000) (w : World) (P : PF g pre pf rb w.heap.size I) (hI : I w) (hE : LaidE w) :
    Calls Tryz.prog 16 #[.string s, .func (.func g) pre #[]] w fun e w' => e = OutX (expR pf (s.size + 1) s []) ∧ I w' ∧ Ko rb w.heap.size w w' := by
  have hmf : ∀ (fn : Fn) (first cap : Array Value) (w : World), (Instr.makeFunc fn first cap).run Tryz.prog w = .ok (.func fn first cap) w := fun _ _ _ _ => rfl
  obtain ⟨R, hR⟩ : ∃ R, expR pf (s.size + 1) s [] = R := ⟨_, rfl⟩
  rw [hR]
  have HR := Lib.hid hR
  have HP := Lib.hid (And.intro P hE)
  have HS := Lib.hid hs
  have HI := Lib.hid hI
  clear hR P hE hs hI
  go_enter_defers Tryz.func16, Tryz.ntmps16
  go_wp2_with fail
  have H0 := Lib.hid (st_new w HP.out.1 HI.out)
  go_loopg [0] s.size (fun kx s0 wr => ∃ (x : ByteArray) (acc : List UInt8), s0 = .string x ∧ x.size ≤ kx ∧ Hid (acc.length + 4 * x.size ≤ 4000000000 ∧ x.size ≤ 1000000000 ∧ St rb I acc w wr ∧ expR pf (x.size + 1) x acc = R))
  case atStart => exact ⟨s, [], rfl, Nat.le_refl _, Lib.hid ⟨by have := HS.out; simp only [List.length_nil]; omega, HS.out, H0.out, HR.out⟩⟩
  case round =>
    obtain ⟨x, acc, rfl, hkx, HW⟩ := hrel
    clear H0
    have HK := Lib.hid hkx
    clear hkx
    have eg := HP.out.1.enter
    have C1 := Lib.hid (cut_c x 38 HW.out.2.1 wr)
    rcases cut_cases x 38 with h | ⟨a, b, h, hsz⟩
    · rw [h] at C1
      have HX := Lib.hid h
      clear h
      go_wp2_with (first | (go_at_call 22; refine C1.out.mono ?_))
      intro e w6; first | (rintro rfl hb) | (rintro ⟨rfl, hb⟩)
      have H6 := Lib.hid (HW.out.2.2.1.below HP.out.1 hb)
      clear hb
      go_wp2_with (first | (with_reducible refine (HP.out.1.call x w6 HW.out.2.1 H6.out.inv H6.out.fr.size).mono ?_))
      intro e w7; first | (rintro rfl hI7 hb) | (rintro ⟨rfl, hI7, hb⟩)
      have H7 := Lib.hid (H6.out.plain HP.out.1 hI7 hb)
      clear hb hI7
      go_wp2_with (first | (go_at_call 23; refine (H7.out.write HP.out.1 (pf x) (by have := HP.out.1.size x; have := HW.out.1; omega)).mono ?_))
      intro e w8; first | (rintro rfl hb) | (rintro ⟨rfl, hb⟩)
      have H8 := Lib.hid hb
      clear hb
      go_wp2_with (first | (go_at_call 24; refine (H8.out.read HP.out.1).mono ?_))
      intro e w9; first | (rintro rfl hb) | (rintro ⟨rfl, hb⟩)
      have H9 := Lib.hid hb
      clear hb
      have k4 : w9.cell? ⟨w.heap.size, 0, none⟩ = some (.string ⟨#[]⟩) := blk_cell H9.out.c4 0
      have f4 : w9.frozen? ⟨w.heap.size, 0, none⟩ = false := frz H9.out.c4 0
      have hc5 := (Below.heap_setCell w9 ⟨w.heap.size, 0, none⟩ (.string ⟨(acc ++ (pf x).data.toList).toArray⟩) (w.heap.size + 1) (by show w.heap.size + 1 ≠ w.heap.size; omega)).trans H9.out.c5
      have k5 : (w9.setCell ⟨w.heap.size, 0, none⟩ (.string ⟨(acc ++ (pf x).data.toList).toArray⟩)).cell? ⟨w.heap.size + 1, 0, none⟩ = some (.int .i64 0) := blk_cell hc5 0
      have f5 : (w9.setCell ⟨w.heap.size, 0, none⟩ (.string ⟨(acc ++ (pf x).data.toList).toArray⟩)).frozen? ⟨w.heap.size + 1, 0, none⟩ = false := frz hc5 0
      obtain ⟨W, hW, r4, r5, hIW, hKW⟩ := H9.out.ret HP.out.1 ⟨(acc ++ (pf x).data.toList).toArray⟩
      have HW9 := Lib.hid (And.intro hW (And.intro hIW hKW))
      clear hIW hKW hc5
      go_wp2_with fail
      rw [← hW]
      refine leaves_cons (f := 21) (args := #[.pointer (some ⟨w.heap.size, 0, none⟩), .pointer (some ⟨w.heap.size + 1, 0, none⟩)]) (by simp) (by simp [go_sem]) ?_
      refine (catch_idle _ _ _).mono ?_
      rintro e u' w'' ⟨rfl, rfl, rfl⟩
      have hq : some (acc ++ (pf x).data.toList) = R := by rw [← HW.out.2.2.2, expR_end HX.out]
      rw [← hq]
      clear hW k4 f4 k5 f5
      simp [Leaves, settle, results, Tryz.results16, go_sem, r4, r5]
      exact ⟨rfl, HW9.out.2.1, HW9.out.2.2⟩
    · rw [h] at C1
      have HX := Lib.hid h
      have HSZ := Lib.hid hsz
      clear h hsz
      have C2 := Lib.hid (cut_c b 59 (by have := HSZ.out; have := HW.out.2.1; omega))
      rcases cut_cases b 59 with h2 | ⟨c, d, h2, hsz2⟩
      · rw [h2] at C2
        have HX2 := Lib.hid h2
        clear h2
        go_wp2_with (first | (go_at_call 22; refine C1.out.mono ?_))
        intro e w6; first | (rintro rfl hb) | (rintro ⟨rfl, hb⟩)
        have H6 := Lib.hid (HW.out.2.2.1.below HP.out.1 hb)
        clear hb
        go_wp2_with (first | (with_reducible refine (HP.out.1.call a w6 (by have := HSZ.out; have := HW.out.2.1; omega) H6.out.inv H6.out.fr.size).mono ?_))
        intro e w7; first | (rintro rfl hI7 hb) | (rintro ⟨rfl, hI7, hb⟩)
        have H7 := Lib.hid (H6.out.plain HP.out.1 hI7 hb)
        clear hb hI7
        go_wp2_with (first | (go_at_call 23; refine (H7.out.write HP.out.1 (pf a) (by have := HP.out.1.size a; have := HSZ.out; have := HW.out.1; omega)).mono ?_))
        intro e w8; first | (rintro rfl hb) | (rintro ⟨rfl, hb⟩)
        have H8 := Lib.hid hb
        clear hb
        go_wp2_with (first | (go_at_call 22; refine (C2.out _).mono ?_))
        intro e w9; first | (rintro rfl hb) | (rintro ⟨rfl, hb⟩)
        have H9 := Lib.hid (H8.out.below HP.out.1 hb)
        clear hb
        go_wp2_with fail
        refine leaves_cons (f := 21) (args := #[.pointer (some ⟨w.heap.size, 0, none⟩), .pointer (some ⟨w.heap.size + 1, 0, none⟩)]) (by simp) (by simp [go_sem]) ?_
        refine (catch_some _ _ _ _ [] _ H9.out.c4 H9.out.c5 (by omega)).mono ?_
        rintro e u' w'' ⟨rfl, rfl, hck⟩
        obtain ⟨r4, r5, hI2, hK2⟩ := H9.out.refuse HP.out.1 hck
        have hq : (none : Option (List UInt8)) = R := by rw [← HW.out.2.2.2, expR_no HX.out HX2.out]
        rw [← hq]
        clear hck
        simp [Leaves, settle, results, Tryz.results16, go_sem, r4, r5]
        exact ⟨rfl, hI2, hK2⟩
      · rw [h2] at C2
        have HX2 := Lib.hid h2
        have HSZ2 := Lib.hid hsz2
        clear h2 hsz2
        obtain ⟨N, hN⟩ : ∃ N, namR c = N := ⟨_, rfl⟩
        have HN := Lib.hid hN
        clear hN
        have C3 := Lib.hid (fun (W : World) (h : LaidE W) => named_c c (by have := HSZ2.out; have := HSZ.out; have := HW.out.2.1; omega) W h)
        rw [HN.out] at C3
        go_wp2_with (first | (go_at_call 22; refine C1.out.mono ?_))
        intro e w6; first | (rintro rfl hb) | (rintro ⟨rfl, hb⟩)
        have H6 := Lib.hid (HW.out.2.2.1.below HP.out.1 hb)
        clear hb
        go_wp2_with (first | (with_reducible refine (HP.out.1.call a w6 (by have := HSZ.out; have := HW.out.2.1; omega) H6.out.inv H6.out.fr.size).mono ?_))
        intro e w7; first | (rintro rfl hI7 hb) | (rintro ⟨rfl, hI7, hb⟩)
        have H7 := Lib.hid (H6.out.plain HP.out.1 hI7 hb)
        clear hb hI7
        go_wp2_with (first | (go_at_call 23; refine (H7.out.write HP.out.1 (pf a) (by have := HP.out.1.size a; have := HSZ.out; have := HW.out.1; omega)).mono ?_))
        intro e w8; first | (rintro rfl hb) | (rintro ⟨rfl, hb⟩)
        have H8 := Lib.hid hb
        clear hb
        go_wp2_with (first | (go_at_call 22; refine (C2.out _).mono ?_))
        intro e w9; first | (rintro rfl hb) | (rintro ⟨rfl, hb⟩)
        have H9 := Lib.hid (H8.out.below HP.out.1 hb)
        clear hb
        go_wp2_with (first | (go_at_call 25; refine (C3.out _ (H9.out.laid HP.out.1 HP.out.2)).mono ?_))
        cases N with
        | none =>
          intro e w10; first | (rintro rfl hb) | (rintro ⟨rfl, hb⟩)
          have H10 := Lib.hid (H9.out.below HP.out.1 hb)
          clear hb
          go_wp2_with fail
          refine leaves_cons (f := 21) (args := #[.pointer (some ⟨w.heap.size, 0, none⟩), .pointer (some ⟨w.heap.size + 1, 0, none⟩)]) (by simp) (by simp [go_sem]) ?_
          refine (catch_some _ _ _ _ [] _ H10.out.c4 H10.out.c5 (by omega)).mono ?_
          rintro e u' w'' ⟨rfl, rfl, hck⟩
          obtain ⟨r4, r5, hI2, hK2⟩ := H10.out.refuse HP.out.1 hck
          have hq : (none : Option (List UInt8)) = R := by rw [← HW.out.2.2.2, expR_bad HX.out HX2.out HN.out]
          rw [← hq]
          clear hck
          simp [Leaves, settle, results, Tryz.results16, go_sem, r4, r5]
          exact ⟨rfl, hI2, hK2⟩
        | some t =>
          intro e w10; first | (rintro rfl hb) | (rintro ⟨rfl, hb⟩)
          have H10 := Lib.hid (H9.out.below HP.out.1 hb)
          clear hb
          have HT := Lib.hid (namR_size HN.out)
          have hlt : (acc ++ (pf a).data.toList).length + t.size ≤ 140737488355328 := by
            rw [List.length_append, ← Lib.size_eq]
            have e2 := HP.out.1.size a
            have e3 := HSZ.out
            have e4 := HW.out.1
            have e5 := HT.out
            omega
          have CW := Lib.hid (H10.out.write HP.out.1 t hlt)
          clear hlt
          go_wp2_with (first | (go_at_call 23; refine CW.out.mono ?_))
          intro e w11; first | (rintro rfl hb) | (rintro ⟨rfl, hb⟩)
          have H11 := Lib.hid hb
          clear hb
          go_wp2_with fail
          go_roundg d.size
          case measure => have := HK.out; have := HSZ.out; have := HSZ2.out; omega
          case rel => exact ⟨d, _, rfl, Nat.le_refl _, Lib.hid ⟨by rw [List.length_append, List.length_append, ← Lib.size_eq, ← Lib.size_eq]; have := HP.out.1.size a; have := HSZ.out; have := HSZ2.out; have := HW.out.1; have := HT.out; omega, by have := HSZ.out; have := HSZ2.out; have := HW.out.2.1; omega, H11.out, by rw [← HW.out.2.2.2, expR_go HX.out HX2.out HN.out]; exact (expR_fuel pf _ _ _ _ (by have := HSZ.out; have := HSZ2.out; omega) (by omega)).symm⟩⟩
end Go.Proofs.YtdcgcccaaooclaaGreatDoor.Rep
end
section
namespace Go.Proofs.YtdcgcccaaooclaaGreatDoorW.PrintWords
/-- One cell an element. -/
theorem Reps.one {α : Type} {R : α → List Value → Prop} {ps : List α} {cs : List Value} {p : α} {v : Value} (hp : R p [v]) (h : Reps R 1 ps cs) : Reps R 1 (p :: ps) (v :: cs) := by
  refine ⟨by simp [h.1], fun j q hq => ?_⟩
  cases j with
  | zero =>
    simp only [List.getElem?_cons_zero, Option.some.injEq] at hq
    subst hq
    simpa using hp
  | succ j =>
    simp only [List.getElem?_cons_succ] at hq
    have h1 := h.2 j q hq
    simpa [Nat.mul_one] using h1
/-- More cells an element: told apart by the cells' list. -/
theorem Reps.front {α : Type} {R : α → List Value → Prop} {size : Nat} {ps : List α} {cs c all : List Value} {p : α} (hp : R p c) (hc : c.length = size) (h : Reps R size ps cs) (ha : c ++ cs = all) : Reps R size (p :: ps) all := by
  subst ha
  refine ⟨by rw [List.length_append, hc, h.1, List.length_cons, Nat.succ_mul, Nat.add_comm], fun j q hq => ?_⟩
  cases j with
  | zero =>
    simp only [List.getElem?_cons_zero, Option.some.injEq] at hq
    subst hq
    rw [Nat.zero_mul, List.drop_zero, List.take_append_of_le_length (by omega), List.take_of_length_le (by omega)]
    exact hp
  | succ j =>
    simp only [List.getElem?_cons_succ] at hq
    have h1 := h.2 j q hq
    rw [Nat.succ_mul, List.drop_append, List.drop_of_length_le (by rw [hc]; exact Nat.le_add_left _ _), List.nil_append, hc, Nat.add_sub_cancel]
    exact h1
theorem Reps.c2 {α : Type} {R : α → List Value → Prop} {ps : List α} {cs : List Value} {p : α} {va vb : Value} (hp : R p [va, vb]) (h : Reps R 2 ps cs) : Reps R 2 (p :: ps) (va :: vb :: cs) := Reps.front hp rfl h rfl
theorem Reps.c3 {α : Type} {R : α → List Value → Prop} {ps : List α} {cs : List Value} {p : α} {va vb vc : Value} (hp : R p [va, vb, vc]) (h : Reps R 3 ps cs) : Reps R 3 (p :: ps) (va :: vb :: vc :: cs) := Reps.front hp rfl h rfl
theorem Reps.c4 {α : Type} {R : α → List Value → Prop} {ps : List α} {cs : List Value} {p : α} {va vb vc vd : Value} (hp : R p [va, vb, vc, vd]) (h : Reps R 4 ps cs) : Reps R 4 (p :: ps) (va :: vb :: vc :: vd :: cs) := Reps.front hp rfl h rfl
theorem Reps.c5 {α : Type} {R : α → List Value → Prop} {ps : List α} {cs : List Value} {p : α} {va vb vc vd ve : Value} (hp : R p [va, vb, vc, vd, ve]) (h : Reps R 5 ps cs) : Reps R 5 (p :: ps) (va :: vb :: vc :: vd :: ve :: cs) := Reps.front hp rfl h rfl
theorem Reps.c9 {α : Type} {R : α → List Value → Prop} {ps : List α} {cs : List Value} {p : α} {va vb vc vd ve vf vg vh vi : Value} (hp : R p [va, vb, vc, vd, ve, vf, vg, vh, vi]) (h : Reps R 9 ps cs) : Reps R 9 (p :: ps) (va :: vb :: vc :: vd :: ve :: vf :: vg :: vh :: vi :: cs) := Reps.front hp rfl h rfl
end Go.Proofs.YtdcgcccaaooclaaGreatDoorW.PrintWords
end
section
/- escape.Escape: a Replacer of signs by references. -/
set_option linter.unusedVariables false
set_option linter.unusedSimpArgs false
set_option maxRecDepth 20000
namespace Go.Proofs.YtdcgcccaaooclaaGreatDoor.Rep
open Go.RowKit Go.Lib Go.Proofs.YtdcgcccaaooclaaGreatDoorW.PrintWords Go.Proofs.YtdcgcccaaooclaaGreatDoorW.PrintLast Go.Proofs.YtdcgcccaaooclaaGreatDoorW.PrintMore
/-- What Escape makes of signs. -/
def prsT : List (UInt8 × ByteArray) := [(38, ⟨#[38, 97, 109, 112, 59]⟩), (60, ⟨#[38, 108, 116, 59]⟩), (62, ⟨#[38, 103, 116, 59]⟩), (13, ⟨#[38, 35, 120, 68, 59]⟩)]
def prsA : List (UInt8 × ByteArray) := [(38, ⟨#[38, 97, 109, 112, 59]⟩), (60, ⟨#[38, 108, 116, 59]⟩), (62, ⟨#[38, 103, 116, 59]⟩), (13, ⟨#[38, 35, 120, 68, 59]⟩), (34, ⟨#[38, 113, 117, 111, 116, 59]⟩), (9, ⟨#[38, 35, 120, 57, 59]⟩), (10, ⟨#[38, 35, 120, 65, 59]⟩)]
def prsE (attr : Bool) : List (UInt8 × ByteArray) := if attr = true then prsA else prsT
/-- The texts of the signs of attributes alone. -/
def moreB : List ByteArray := [(⟨#[34]⟩ : ByteArray), (⟨#[38, 113, 117, 111, 116, 59]⟩ : ByteArray), (⟨#[9]⟩ : ByteArray), (⟨#[38, 35, 120, 57, 59]⟩ : ByteArray), (⟨#[10]⟩ : ByteArray), (⟨#[38, 35, 120, 65, 59]⟩ : ByteArray)]
set_option maxHeartbeats 4000000 in
theorem escape_c (s : ByteArray) (attr : Bool) (hs : s.size ≤ 1000000000) (w : World) :
    Calls Tryz.prog 13 #[.string s, .bool attr] w fun e w' => e = .returned (.string ⟨(outS (prsE attr) s.data.toList).toArray⟩) ∧ Below w.heap.size w w' := by
  have HS := Lib.hid hs
  clear hs
  go_enter Tryz.func13, Tryz.ntmps13
  go_upto_if 7 with (first | ((with_reducible refine gate_dst (N := 6) rfl ?_); refine Kd.R_lit Kd.string (w0 := w) w.heap.size 9 ?hg (N := 6) ?hd (xs := ([(⟨#[38]⟩ : ByteArray), (⟨#[38, 97, 109, 112, 59]⟩ : ByteArray), (⟨#[60]⟩ : ByteArray), (⟨#[38, 108, 116, 59]⟩ : ByteArray), (⟨#[62]⟩ : ByteArray), (⟨#[38, 103, 116, 59]⟩ : ByteArray), (⟨#[13]⟩ : ByteArray), (⟨#[38, 35, 120, 68, 59]⟩ : ByteArray)] : List ByteArray)) (inner := [.string ⟨#[38]⟩, .string ⟨#[38, 97, 109, 112, 59]⟩, .string ⟨#[60]⟩, .string ⟨#[38, 108, 116, 59]⟩, .string ⟨#[62]⟩, .string ⟨#[38, 103, 116, 59]⟩, .string ⟨#[13]⟩, .string ⟨#[38, 35, 120, 68, 59]⟩]) (ok := fun _ => True) (okp := fun _ => True) ?hr ?hp (fun _ hk => hk) trivial ?hB ?hS (by decide) ?_; (case hd => rfl); (case hg => rfl); (case hr => first | (go_simp; done) | (go_simp; rfl)); (case hp => exact (Reps.one (show Kd.M Kd.string _ _ _ (⟨#[38]⟩ : ByteArray) [.string (⟨#[38]⟩ : ByteArray)] from rfl) (Reps.one (show Kd.M Kd.string _ _ _ (⟨#[38, 97, 109, 112, 59]⟩ : ByteArray) [.string (⟨#[38, 97, 109, 112, 59]⟩ : ByteArray)] from rfl) (Reps.one (show Kd.M Kd.string _ _ _ (⟨#[60]⟩ : ByteArray) [.string (⟨#[60]⟩ : ByteArray)] from rfl) (Reps.one (show Kd.M Kd.string _ _ _ (⟨#[38, 108, 116, 59]⟩ : ByteArray) [.string (⟨#[38, 108, 116, 59]⟩ : ByteArray)] from rfl) (Reps.one (show Kd.M Kd.string _ _ _ (⟨#[62]⟩ : ByteArray) [.string (⟨#[62]⟩ : ByteArray)] from rfl) (Reps.one (show Kd.M Kd.string _ _ _ (⟨#[38, 103, 116, 59]⟩ : ByteArray) [.string (⟨#[38, 103, 116, 59]⟩ : ByteArray)] from rfl) (Reps.one (show Kd.M Kd.string _ _ _ (⟨#[13]⟩ : ByteArray) [.string (⟨#[13]⟩ : ByteArray)] from rfl) (Reps.one (show Kd.M Kd.string _ _ _ (⟨#[38, 35, 120, 68, 59]⟩ : ByteArray) [.string (⟨#[38, 35, 120, 68, 59]⟩ : ByteArray)] from rfl) (Reps.none _ _)))))))))); (case hB => exact Below.refl _ _); (case hS => exact Nat.le_refl _); intro v1 w1 hR hb hg_ hn_; clear hg_ hn_; obtain ⟨A1, d1, rfl⟩ := Kd.R_slice hR; have HR := Lib.hid hR; have HB := Lib.hid hb; clear hR hb))
  go_cut [5] (fun v5 wc => ∃ A d, v5 = .slice A (flat (prsE attr)).length d ∧ Hid (Kd.C Kd.string wc A (flat (prsE attr)).length (flat (prsE attr)) ∧ (flat (prsE attr)).length ≤ d ∧ Below w.heap.size w wc))
  case first =>
    cases attr
    · go_wp2_with fail
      go_meet
      case rel => exact ⟨A1, d1, rfl, Lib.hid ⟨(Kd.R_reads' HR.out).2.2, (Kd.R_reads' HR.out).2.1, HB.out⟩⟩
    · go_wp2_with (first | ((with_reducible refine gate_dst (N := 9) rfl ?_); refine Kd.R_lit Kd.string (w0 := w) w.heap.size 9 ?hg (N := 9) ?hd (xs := ([(⟨#[34]⟩ : ByteArray), (⟨#[38, 113, 117, 111, 116, 59]⟩ : ByteArray), (⟨#[9]⟩ : ByteArray), (⟨#[38, 35, 120, 57, 59]⟩ : ByteArray), (⟨#[10]⟩ : ByteArray), (⟨#[38, 35, 120, 65, 59]⟩ : ByteArray)] : List ByteArray)) (inner := [.string ⟨#[34]⟩, .string ⟨#[38, 113, 117, 111, 116, 59]⟩, .string ⟨#[9]⟩, .string ⟨#[38, 35, 120, 57, 59]⟩, .string ⟨#[10]⟩, .string ⟨#[38, 35, 120, 65, 59]⟩]) (ok := fun _ => True) (okp := fun _ => True) ?hr ?hp (fun _ hk => hk) trivial HB.out HB.out.size (by decide) ?_; (case hd => rfl); (case hg => rfl); (case hr => first | (go_simp; done) | (go_simp; rfl)); (case hp => exact (Reps.one (show Kd.M Kd.string _ _ _ (⟨#[34]⟩ : ByteArray) [.string (⟨#[34]⟩ : ByteArray)] from rfl) (Reps.one (show Kd.M Kd.string _ _ _ (⟨#[38, 113, 117, 111, 116, 59]⟩ : ByteArray) [.string (⟨#[38, 113, 117, 111, 116, 59]⟩ : ByteArray)] from rfl) (Reps.one (show Kd.M Kd.string _ _ _ (⟨#[9]⟩ : ByteArray) [.string (⟨#[9]⟩ : ByteArray)] from rfl) (Reps.one (show Kd.M Kd.string _ _ _ (⟨#[38, 35, 120, 57, 59]⟩ : ByteArray) [.string (⟨#[38, 35, 120, 57, 59]⟩ : ByteArray)] from rfl) (Reps.one (show Kd.M Kd.string _ _ _ (⟨#[10]⟩ : ByteArray) [.string (⟨#[10]⟩ : ByteArray)] from rfl) (Reps.one (show Kd.M Kd.string _ _ _ (⟨#[38, 35, 120, 65, 59]⟩ : ByteArray) [.string (⟨#[38, 35, 120, 65, 59]⟩ : ByteArray)] from rfl) (Reps.none _ _)))))))); intro v2 w2 hR2 hb2 hg2 hn2; obtain ⟨A2, d2, rfl⟩ := Kd.R_slice hR2; have HR2 := Lib.hid (And.intro hR2 (And.intro hb2 hg2)); clear hR2 hb2 hg2 hn2) | (at_builtin; refine Kd.R_append_rows Kd.string (w0 := w) w.heap.size rfl (.tmp 8) (.tmp 9) 32 9 (.string ⟨#[]⟩) 16 rfl Tryz.underlying32 info9 rfl (by decide) (by decide) (.slice A1 8 d1) (flat prsT) moreB A2 6 d2 (fun _ => True) (fun _ => False) rfl rfl ?h1 ?h2 (fun _ _ h => h) (fun _ h => h.elim) (fun _ _ => trivial) HR2.out.2.1 HR2.out.2.1.size (by decide) ?_; (case h1 => exact Kd.R_grown HR.out HR2.out.2.2 (fun _ _ => by simp)); (case h2 => exact (Kd.R_reads' HR2.out.1).2.2); intro v3 w3 hR3 hb3 hg3 hn3; obtain ⟨A3, d3, rfl⟩ := Kd.R_slice hR3; have HR3 := Lib.hid (And.intro hR3 hb3); clear hR3 hb3 hg3 hn3))
      go_meet
      case rel => exact ⟨A3, d3, rfl, Lib.hid ⟨(Kd.R_reads' HR3.out.1).2.2, (Kd.R_reads' HR3.out.1).2.1, HR3.out.2⟩⟩
  case rest =>
    clear HR HB
    obtain ⟨A, d, rfl, HC⟩ := hcut
    go_wp2_with (first | (go_at_call 19; refine (new_c A (flat (prsE attr)) d wc HC.out.1 HC.out.2.1 (by cases attr <;> decide) (by cases attr <;> decide)).mono ?_))
    rintro e w2 ⟨b, rfl, hN, hbs, hb⟩
    have HN := Lib.hid (And.intro hN (And.intro hbs hb))
    clear hN hbs hb
    go_wp2_with (first | (go_at_call 20; refine (replace_new b (prsE attr) s w2 HN.out.1 HS.out (by cases attr <;> decide) (by cases attr <;> decide) (by cases attr <;> decide) (by cases attr <;> decide) (by cases attr <;> decide) (by cases attr <;> decide)).mono ?_))
    rintro e w3 ⟨rfl, hk⟩
    have HK := Lib.hid hk
    clear hk
    go_wp2_with fail
    go_ret
    exact ⟨rfl, (HC.out.2.2.trans (HN.out.2.2.mono HC.out.2.2.size)).trans (HK.out.below (Nat.le_trans HC.out.2.2.size HN.out.2.1) (Nat.le_trans HC.out.2.2.size HN.out.2.2.size))⟩
end Go.Proofs.YtdcgcccaaooclaaGreatDoor.Rep
end
section
/- escape.Expand and escape.Value. -/
set_option linter.unusedVariables false
set_option linter.unusedSimpArgs false
set_option maxRecDepth 20000
namespace Go.Proofs.YtdcgcccaaooclaaGreatDoor.Rep
open Go.RowKit Go.Lib Go.Proofs.YtdcgcccaaooclaaGreatDoorW.PrintWords Go.Proofs.YtdcgcccaaooclaaGreatDoorW.PrintLast Go.Proofs.YtdcgcccaaooclaaGreatDoorW.PrintMore
theorem enter17 (args : Array Value) (w : World) : (callFunc 17 args).run Tryz.prog w = .ok (.enter 17 args) w := by kernel_rfl
theorem enter20 (args : Array Value) (w : World) : (callFunc 20 args).run Tryz.prog w = .ok (.enter 20 args) w := by kernel_rfl
theorem same_c (t : ByteArray) (w : World) : Calls Tryz.prog 17 #[.string t] w fun e w' => e = .returned (.string t) ∧ w' = w := by
  go_enter Tryz.func17, Tryz.ntmps17
  go_wp2_with fail
  go_ret
  exact ⟨rfl, rfl⟩
theorem pf_same (w : World) : PF 17 #[] (fun t => t) none w.heap.size (fun _ => True) where
  call := fun t W _ _ _ => (same_c t W).mono fun e w' h => ⟨h.1, trivial, by rw [h.2]; exact Ko.of (Below.refl _ _)⟩
  enter := enter17
  below := fun _ _ _ _ => trivial
  kept := fun _ _ _ _ => trivial
  size := fun t => Nat.le_refl _
  low := fun k h => by cases h
  no1 := by simp
  no2 := by simp
theorem Ko.below {B : Nat} {w w' : World} (h : Ko none B w w') : Below B w w' := ⟨h.os, h.tape, h.output, h.size, fun k hk => h.block k hk (by simp)⟩
set_option maxHeartbeats 1000000 in
theorem expand_c (s : ByteArray) (hs : s.size ≤ 1000000000) (w : World) (hE : LaidE w) :
    Calls Tryz.prog 9 #[.string s] w fun e w' => e = OutX (expR (fun t => t) (s.size + 1) s []) ∧ Below w.heap.size w w' := by
  have C := Lib.hid (expanded_c 17 #[] (fun t => t) none (fun _ => True) s hs w (pf_same w) trivial hE)
  clear hs hE
  obtain ⟨R, hR⟩ : ∃ R, expR (fun t => t) (s.size + 1) s [] = R := ⟨_, rfl⟩
  rw [hR] at C ⊢
  clear hR
  cases R
  all_goals
    go_enter Tryz.func9, Tryz.ntmps9
    go_wp2_with (first | (go_at_call 16; refine C.out.mono ?_))
    intro e w2; first | (rintro rfl _ hb) | (rintro ⟨rfl, _, hb⟩)
    have HB := Lib.hid hb.below
    clear hb
    simp only [OutX]
    go_wp2_with fail
    go_ret2
    exact ⟨rfl, HB.out⟩
/-- What Value makes of bytes. -/
def prsB : List (UInt8 × ByteArray) := [(9, ⟨#[32]⟩), (10, ⟨#[32]⟩), (13, ⟨#[32]⟩)]
def bsV : List ByteArray := [(⟨#[9]⟩ : ByteArray), (⟨#[32]⟩ : ByteArray), (⟨#[10]⟩ : ByteArray), (⟨#[32]⟩ : ByteArray), (⟨#[13]⟩ : ByteArray), (⟨#[32]⟩ : ByteArray)]
/-- The Replacer's state in the loop: not yet built, in a world that was; or built. -/
def IV (b : Nat) (w0 w : World) : Prop := (New w0 b (flat prsB) ∧ Below w0.heap.size w0 w) ∨ Dn w b prsB
theorem New.lt {w : World} {b : Nat} {ps : List ByteArray} (h : New w b ps) : b < w.heap.size := by
  obtain ⟨A, c, hb, _⟩ := h
  exact blk_lt hb
theorem C_below {w w' : World} {A : Option Addr} {n : Nat} {xs : List ByteArray} (h : Kd.C Kd.string w A n xs) (hb : Below w.heap.size w w') : Kd.C Kd.string w' A n xs := by
  refine ⟨h.1, h.2.1, fun h0 => ?_⟩
  obtain ⟨ad, e, hc⟩ := h.2.2 h0
  refine ⟨ad, e, fun j q hq => ?_⟩
  obtain ⟨c, h1, h2, h3⟩ := hc j q hq
  refine ⟨c, h1, h2, fun i x hx => ?_⟩
  have h4 := h3 i x hx
  exact (hb.cell (World.block_lt_of_cell? w _ h4)).trans h4
theorem New.below {w w' : World} {b : Nat} {ps : List ByteArray} (h : New w b ps) (hb : Below w.heap.size w w') : New w' b ps := by
  obtain ⟨A, c, h1, h2, h3⟩ := h
  exact ⟨A, c, blk_below h1 hb, C_below h2 hb, h3⟩
theorem Kb.ko {b : Nat} {w w' : World} (h : Kb b w w') : Ko (some b) w.heap.size w w' := ⟨h.os, h.tape, h.output, h.size, fun k hk hn => h.block k hk (fun e => hn (by rw [e]))⟩
theorem Ko.from {b : Nat} {w w2 w3 : World} (h : Ko (some b) w2.heap.size w2 w3) (hb : Below w.heap.size w w2) (hl : w.heap.size ≤ b) : Below w.heap.size w w3 :=
  hb.trans ⟨h.os, h.tape, h.output, h.size, fun k hk => h.block k (Nat.lt_of_lt_of_le hk hb.size) (fun e => by injection e; omega)⟩
theorem pf_bytes (b : Nat) (w0 : World) (hN : New w0 b (flat prsB)) (hb : 2 < b) : PF 20 #[.pointer (some ⟨b, 0, none⟩)] (bmap (tU prsB)) (some b) w0.heap.size (IV b w0) where
  call := fun t W ht hI hW => by
    have fin : ∀ (e : Ending) (w' : World), (e = .returned (.string (bmap (tU prsB) t)) ∧ Dn w' b prsB ∧ Kb b W w') → e = .returned (.string (bmap (tU prsB) t)) ∧ IV b w0 w' ∧ Ko (some b) W.heap.size W w' := fun e w' h => ⟨h.1, .inr h.2.1, h.2.2.ko⟩
    rcases hI with ⟨h1, h2⟩ | h
    · exact (bytes_new b prsB t W (h1.below h2) ht (by decide) (by decide) (by decide)).mono fin
    · exact (bytes_done b prsB t W h ht).mono fin
  enter := enter20
  below := fun W W' hI hb => by
    rcases hI with ⟨h1, h2⟩ | h
    · exact .inl ⟨h1, h2.trans (hb.mono h2.size)⟩
    · exact .inr (h.below hb)
  kept := fun W W' hI hk => by
    rcases hI with ⟨h1, h2⟩ | ⟨B, h1, h2, h3⟩
    · exact .inl ⟨h1, h2.trans hk.1⟩
    · exact .inr ⟨B, hk.2 _ _ _ _ h1 (by decide) (by decide) (by decide) (by decide), hk.2 _ _ _ _ h2 (by decide) (by decide) (by decide) (by decide), h3⟩
  size := fun t => by rw [bmap_size]; exact Nat.le_refl _
  low := fun k h => by injection h with h; rw [← h]; exact hN.lt
  no1 := by intro h; injection h with h; omega
  no2 := by intro h; injection h with h; omega
set_option maxHeartbeats 4000000 in
theorem value_c (s : ByteArray) (hs : s.size ≤ 1000000000) (w : World) (hE : LaidE w) :
    Calls Tryz.prog 11 #[.string s] w fun e w' => e = OutX (expR (bmap (tU prsB)) (s.size + 1) s []) ∧ Below w.heap.size w w' := by
  have HS := Lib.hid (And.intro hs hE)
  obtain ⟨R, hR⟩ : ∃ R, expR (bmap (tU prsB)) (s.size + 1) s [] = R := ⟨_, rfl⟩
  have HR := Lib.hid hR
  have hmf : ∀ (fn : Fn) (first cap : Array Value) (w : World), (Instr.makeFunc fn first cap).run Tryz.prog w = .ok (.func fn first cap) w := fun _ _ _ _ => rfl
  rw [hR]
  clear hs hE hR
  go_enter Tryz.func11, Tryz.ntmps11
  go_wp2_with (first | ((with_reducible refine gate_dst (N := 5) rfl ?_); refine Kd.R_lit Kd.string (w0 := w) w.heap.size 9 ?hg (N := 5) ?hd (xs := bsV) (inner := [.string ⟨#[9]⟩, .string ⟨#[32]⟩, .string ⟨#[10]⟩, .string ⟨#[32]⟩, .string ⟨#[13]⟩, .string ⟨#[32]⟩]) (ok := fun _ => True) (okp := fun _ => True) ?hr ?hp (fun _ hk => hk) trivial ?hB ?hS (by decide) ?_; (case hd => rfl); (case hg => rfl); (case hr => first | (go_simp; done) | (go_simp; rfl)); (case hp => exact (Reps.one (show Kd.M Kd.string _ _ _ (⟨#[9]⟩ : ByteArray) [.string (⟨#[9]⟩ : ByteArray)] from rfl) (Reps.one (show Kd.M Kd.string _ _ _ (⟨#[32]⟩ : ByteArray) [.string (⟨#[32]⟩ : ByteArray)] from rfl) (Reps.one (show Kd.M Kd.string _ _ _ (⟨#[10]⟩ : ByteArray) [.string (⟨#[10]⟩ : ByteArray)] from rfl) (Reps.one (show Kd.M Kd.string _ _ _ (⟨#[32]⟩ : ByteArray) [.string (⟨#[32]⟩ : ByteArray)] from rfl) (Reps.one (show Kd.M Kd.string _ _ _ (⟨#[13]⟩ : ByteArray) [.string (⟨#[13]⟩ : ByteArray)] from rfl) (Reps.one (show Kd.M Kd.string _ _ _ (⟨#[32]⟩ : ByteArray) [.string (⟨#[32]⟩ : ByteArray)] from rfl) (Reps.none _ _)))))))); (case hB => exact Below.refl _ _); (case hS => exact Nat.le_refl _); intro v1 w1 hR hb hg_ hn_; clear hg_ hn_; obtain ⟨A1, d1, rfl⟩ := Kd.R_slice hR; have HL := Lib.hid hR; have HB := Lib.hid hb; clear hR hb))
  go_wp2_with (first | (go_at_call 19; refine (new_c A1 bsV d1 w1 (Kd.R_reads' HL.out).2.2 (Kd.R_reads' HL.out).2.1 (by decide) (by decide)).mono ?_))
  rintro e w2 ⟨b, rfl, hN, hbs, hb⟩
  have HE1 := Lib.hid (HS.out.2.below HB.out)
  have hlt2 : 2 < w.heap.size := by
    obtain ⟨_, t2, p2, h2⟩ := HS.out.2
    exact World.block_lt_of_cell? w _ h2
  have HB2 := Lib.hid (HB.out.trans (hb.mono HB.out.size))
  have HP := Lib.hid (pf_bytes b w2 hN (by have := HB.out.size; omega))
  have HI := Lib.hid (show IV b w2 w2 from .inl ⟨hN, Below.refl _ _⟩)
  have HE2 := Lib.hid (HE1.out.below hb)
  have HBL := Lib.hid (show w.heap.size ≤ b by have := HB.out.size; omega)
  have C := Lib.hid (expanded_c 20 #[.pointer (some ⟨b, 0, none⟩)] (bmap (tU prsB)) (some b) (IV b w2) s HS.out.1 w2 HP.out HI.out HE2.out)
  rw [HR.out] at C
  clear hN hbs hb hlt2
  cases R
  all_goals
    go_wp2_with (first | (go_at_call 16; refine C.out.mono ?_))
    intro e w3; first | (rintro rfl _ hb) | (rintro ⟨rfl, _, hb⟩)
    have HB3 := Lib.hid (hb.from HB2.out HBL.out)
    clear hb
    simp only [OutX]
    go_wp2_with fail
    go_ret2
    exact ⟨rfl, HB3.out⟩
end Go.Proofs.YtdcgcccaaooclaaGreatDoor.Rep
end
section
/- broadsheetlaw06.awake holds. -/
set_option linter.unusedVariables false
set_option linter.unusedSimpArgs false
set_option maxRecDepth 20000
namespace Go.Proofs.YtdcgcccaaooclaaGreatDoor.Rep
open Go.RowKit Go.Lib Go.Proofs.YtdcgcccaaooclaaGreatDoorW.PrintWords Go.Proofs.YtdcgcccaaooclaaGreatDoorW.PrintLast Go.Proofs.YtdcgcccaaooclaaGreatDoorW.PrintMore
def wA : ByteArray := ⟨#[97, 38, 108, 116, 59, 38, 35, 120, 52, 49, 59, 38, 97, 109, 112, 59, 108, 116, 59]⟩
def wB : ByteArray := ⟨#[38, 35, 48, 59]⟩
def wC : ByteArray := ⟨#[97, 10, 38, 35, 49, 48, 59]⟩
theorem awA : expR (fun t => t) (wA.size + 1) wA [] = some [97, 60, 65, 38, 108, 116, 59] := by decide +kernel
theorem awB : expR (fun t => t) (wB.size + 1) wB [] = none := by decide +kernel
theorem awC : expR (bmap (tU prsB)) (wC.size + 1) wC [] = some [97, 32, 10] := by decide +kernel
theorem awD : outS (prsE false) (⟨#[60]⟩ : ByteArray).data.toList = [38, 108, 116, 59] := by decide +kernel
set_option maxHeartbeats 4000000 in
theorem awake_c (w : World) (hE : LaidE w) : Calls Tryz.prog 8 #[] w fun e w' => e = .returned (.bool true) ∧ Below w.heap.size w w' := by
  have HE := Lib.hid hE
  clear hE
  have CA := Lib.hid (fun W h => expand_c wA (by decide) W h)
  have CB := Lib.hid (fun W h => expand_c wB (by decide) W h)
  have CC := Lib.hid (fun W h => value_c wC (by decide) W h)
  have CD := Lib.hid (fun W => escape_c ⟨#[60]⟩ false (by decide) W)
  rw [awA] at CA
  rw [awB] at CB
  rw [awC] at CC
  rw [awD] at CD
  simp only [OutX] at CA CB CC
  go_enter Tryz.func8, Tryz.ntmps8
  go_wp2_with (first | (go_at_call 9; refine (CA.out _ HE.out).mono ?_))
  intro e w1; first | (rintro rfl hb) | (rintro ⟨rfl, hb⟩)
  have HB1 := Lib.hid hb
  clear hb
  go_wp2_with (first | (go_at_call 9; refine (CB.out _ (HE.out.below HB1.out)).mono ?_))
  intro e w2; first | (rintro rfl hb) | (rintro ⟨rfl, hb⟩)
  have HB2 := Lib.hid (HB1.out.trans (hb.mono HB1.out.size))
  clear hb
  go_wp2_with (first | (go_at_call 11; refine (CC.out _ (HE.out.below HB2.out)).mono ?_))
  intro e w3; first | (rintro rfl hb) | (rintro ⟨rfl, hb⟩)
  have HB3 := Lib.hid (HB2.out.trans (hb.mono HB2.out.size))
  clear hb
  go_wp2_with (first | (go_at_call 13; refine (CD.out _).mono ?_))
  intro e w4; first | (rintro rfl hb) | (rintro ⟨rfl, hb⟩)
  have HB4 := Lib.hid (HB3.out.trans (hb.mono HB3.out.size))
  clear hb
  go_wp2_with fail
  go_ret
  exact ⟨rfl, HB4.out⟩
end Go.Proofs.YtdcgcccaaooclaaGreatDoor.Rep
end
section
/- broadsheetref06.Escape. -/
set_option linter.unusedVariables false
set_option linter.unusedSimpArgs false
set_option maxRecDepth 20000
namespace Go.Proofs.YtdcgcccaaooclaaGreatDoor.Rep
open Go.RowKit Go.Lib Go.Proofs.YtdcgcccaaooclaaGreatDoorW.PrintWords Go.Proofs.YtdcgcccaaooclaaGreatDoorW.PrintLast Go.Proofs.YtdcgcccaaooclaaGreatDoorW.PrintMore
end Go.Proofs.YtdcgcccaaooclaaGreatDoor.Rep
end
section
/- The plain laws of expanded texts: a scan of bytes; what is escaped is scanned as it was; two texts scanned are so together. -/
set_option linter.unusedVariables false
set_option linter.unusedSimpArgs false
set_option maxRecDepth 20000
namespace Go.Proofs.YtdcgcccaaooclaaGreatDoor.Rep
open Go.RowKit Go.Lib
/-- A list cut at a byte. -/
def cutL (c : UInt8) : List UInt8 → List UInt8 × List UInt8 × Bool
  | [] => ([], [], false)
  | b :: l => if b = c then ([], l, true) else (b :: (cutL c l).1, (cutL c l).2.1, (cutL c l).2.2)
theorem cutL_ix (c : UInt8) (l : List UInt8) : (∃ o : Nat, Lib.indexByte l c = o ∧ cutL c l = (l.take o, l.drop (o + 1), true)) ∨ (Lib.indexByte l c = -1 ∧ cutL c l = (l, [], false)) := by
  induction l with
  | nil => exact .inr ⟨rfl, rfl⟩
  | cons b l ih =>
    by_cases h : b = c
    · refine .inl ⟨0, ?_, ?_⟩
      · simp [Lib.indexByte, h]
      · simp [cutL, h]
    · have hb : (b == c) = false := by simpa using h
      rcases ih with ⟨o, h1, h2⟩ | ⟨h1, h2⟩
      · refine .inl ⟨o + 1, ?_, ?_⟩
        · have hne : ((o : Int) == -1) = false := beq_eq_false_iff_ne.2 (by omega)
          simp [Lib.indexByte, hb, h1, hne]
        · simp [cutL, h, h2]
      · refine .inr ⟨?_, ?_⟩
        · simp [Lib.indexByte, hb, h1]
        · simp [cutL, h, h2]
theorem ba_list (s : ByteArray) : (⟨s.data.toList.toArray⟩ : ByteArray) = s := by cases s; rfl
theorem cutV_eq (l : List UInt8) (c : UInt8) : At.cutV ⟨l.toArray⟩ c = (⟨(cutL c l).1.toArray⟩, ⟨(cutL c l).2.1.toArray⟩, (cutL c l).2.2) := by
  have hsz : (⟨l.toArray⟩ : ByteArray).size = l.length := by show l.toArray.size = _; simp
  unfold At.cutV
  rcases cutL_ix c l with ⟨o, h1, h2⟩ | ⟨h1, h2⟩
  · have h1' : Lib.indexByte (⟨l.toArray⟩ : ByteArray).data.toList c = o := h1
    rw [h1', if_pos (by omega), h2, hsz]
    have e1 : (⟨l.toArray⟩ : ByteArray).extract 0 o = ⟨(l.take o).toArray⟩ := by
      rw [← ba_list ((⟨l.toArray⟩ : ByteArray).extract 0 o), ← ByteArray.toList_eq, Lib.extract_toList]
      simp
    have e2 : (⟨l.toArray⟩ : ByteArray).extract (o + 1) l.length = ⟨(l.drop (o + 1)).toArray⟩ := by
      rw [← ba_list ((⟨l.toArray⟩ : ByteArray).extract (o + 1) l.length), ← ByteArray.toList_eq, Lib.extract_toList]
      congr 2
      exact List.take_of_length_le (by simp)
    simp only [Int.toNat_natCast, e1, e2]
  · have h1' : Lib.indexByte (⟨l.toArray⟩ : ByteArray).data.toList c = -1 := h1
    rw [h1', if_neg (by omega), h2]
/-- A scan: of a text, or of a reference whose name is so far n. -/
def sc (pb : UInt8 → UInt8) : Option (List UInt8) → List UInt8 → Option (List UInt8)
  | none, [] => some []
  | some _, [] => none
  | none, c :: l => if c = 38 then sc pb (some []) l else (sc pb none l).map (pb c :: ·)
  | some n, c :: l => if c = 59 then (namR ⟨n.toArray⟩).bind fun t => (sc pb none l).map (t.data.toList ++ ·) else sc pb (some (n ++ [c])) l
theorem sc_text (pb : UInt8 → UInt8) (l : List UInt8) : sc pb none l = if (cutL 38 l).2.2 = true then (sc pb (some []) (cutL 38 l).2.1).map ((cutL 38 l).1.map pb ++ ·) else some ((cutL 38 l).1.map pb) := by
  induction l with
  | nil => rfl
  | cons c l ih =>
    by_cases h : c = 38
    · simp [sc, cutL, h]
    · simp only [sc, cutL, h, if_false, ih]
      split
      · simp [Option.map_map, Function.comp_def]
      · rfl
theorem sc_name (pb : UInt8 → UInt8) (l : List UInt8) : ∀ n, sc pb (some n) l = if (cutL 59 l).2.2 = true then (namR ⟨(n ++ (cutL 59 l).1).toArray⟩).bind fun t => (sc pb none (cutL 59 l).2.1).map (t.data.toList ++ ·) else none := by
  induction l with
  | nil => intro n; rfl
  | cons c l ih =>
    intro n
    by_cases h : c = 59
    · simp [sc, cutL, h]
    · simp only [sc, cutL, h, if_false, ih]
      simp [List.append_assoc]
theorem cutL_len (c : UInt8) (l : List UInt8) : (cutL c l).2.1.length ≤ l.length ∧ ((cutL c l).2.2 = true → (cutL c l).2.1.length < l.length) := by
  induction l with
  | nil => exact ⟨Nat.le_refl _, by intro h; cases h⟩
  | cons b l ih =>
    by_cases h : b = c
    · simp [cutL, h]
    · simp only [cutL, h, if_false, List.length_cons]
      exact ⟨by omega, fun h2 => by have := ih.2 h2; omega⟩
/-- What expanded makes is the scan. -/
theorem expR_sc (pb : UInt8 → UInt8) : ∀ (k : Nat) (l acc : List UInt8), l.length < k → expR (bmap pb) k ⟨l.toArray⟩ acc = (sc pb none l).map (acc ++ ·) := by
  intro k
  induction k with
  | zero => intro l acc h; omega
  | succ k ih =>
    intro l acc h
    have hl := cutL_len 38 l
    have hl2 := cutL_len 59 (cutL 38 l).2.1
    simp only [expR, cutV_eq]
    rw [sc_text]
    cases h1 : (cutL 38 l).2.2 with
    | false =>
      simp only [Bool.false_eq_true, if_false, Option.map_some]
      rfl
    | true =>
      simp only [if_true]
      rw [sc_name]
      cases h2 : (cutL 59 (cutL 38 l).2.1).2.2 with
      | false => simp
      | true =>
        simp only [if_true, List.nil_append]
        cases h3 : namR ⟨(cutL 59 (cutL 38 l).2.1).1.toArray⟩ with
        | none => simp
        | some t =>
          have := hl.2 h1
          have := hl2.2 h2
          simp only [Option.bind_some]
          rw [ih _ _ (by omega)]
          simp only [Option.map_map, Function.comp_def, List.append_assoc]
          rfl
theorem bmap_same : (fun t : ByteArray => t) = bmap id := by
  funext t
  show t = ⟨(t.data.toList.map id).toArray⟩
  rw [List.map_id]
/-- Two texts, scanned together. -/
theorem sc_append (pb : UInt8 → UInt8) (s t : List UInt8) : ∀ st a, sc pb st s = some a → sc pb st (s ++ t) = (sc pb none t).map (a ++ ·) := by
  induction s with
  | nil =>
    intro st a h
    cases st with
    | none => injection h with h; subst h; simp [sc]
    | some n => cases h
  | cons c s ih =>
    intro st a h
    cases st with
    | none =>
      simp only [List.cons_append, sc] at h ⊢
      split at h
      · rename_i hc; rw [if_pos hc]; exact ih _ _ h
      · rename_i hc
        rw [if_neg hc]
        obtain ⟨b, hb, rfl⟩ := Option.map_eq_some_iff.1 h
        rw [ih _ _ hb]
        simp [Option.map_map, Function.comp_def]
    | some n =>
      simp only [List.cons_append, sc] at h ⊢
      split at h
      · rename_i hc
        rw [if_pos hc]
        obtain ⟨u, hu, h⟩ := Option.bind_eq_some_iff.1 h
        obtain ⟨b, hb, rfl⟩ := Option.map_eq_some_iff.1 h
        rw [hu, Option.bind_some, ih _ _ hb]
        simp [Option.map_map, Function.comp_def]
      · rename_i hc; rw [if_neg hc]; exact ih _ _ h
/-- How a byte may be written: as it is, or as a reference to it. -/
def okW (pb : UInt8 → UInt8) (c : UInt8) (v : List UInt8) : Bool :=
  (v == [c] && decide (c ≠ 38) && decide (pb c = c)) || ((cutL 38 v).1 == [] && (cutL 38 v).2.2 && (cutL 59 (cutL 38 v).2.1).2.2 && (cutL 59 (cutL 38 v).2.1).2.1 == [] && decide ((namR ⟨(cutL 59 (cutL 38 v).2.1).1.toArray⟩).map (·.data.toList) = some [c]))
theorem okW_sc {pb : UInt8 → UInt8} {c : UInt8} {v : List UInt8} (h : okW pb c v = true) : sc pb none v = some [c] := by
  unfold okW at h
  rw [Bool.or_eq_true] at h
  rcases h with h | h
  · simp only [Bool.and_eq_true, decide_eq_true_eq, beq_iff_eq] at h
    obtain ⟨⟨h1, h2⟩, h3⟩ := h
    rw [h1]
    simp [sc, h2, h3]
  · simp only [Bool.and_eq_true, decide_eq_true_eq, beq_iff_eq] at h
    obtain ⟨⟨⟨⟨h1, h2⟩, h3⟩, h4⟩, h5⟩ := h
    rw [sc_text, if_pos h2, h1, sc_name, if_pos h3, h4, List.nil_append]
    obtain ⟨t, ht, h6⟩ := Option.map_eq_some_iff.1 h5
    rw [ht]
    simp [sc, h6]
theorem sc_out {pb : UInt8 → UInt8} {f : UInt8 → List UInt8} (hf : ∀ c, okW pb c (f c) = true) (s : List UInt8) : sc pb none (s.flatMap f) = some s := by
  induction s with
  | nil => rfl
  | cons c s ih =>
    rw [List.flatMap_cons, sc_append pb _ _ _ _ (okW_sc (hf c)), ih]
    rfl
theorem all_u8 {p : UInt8 → Bool} (h : ∀ n : Fin 256, p (UInt8.ofNat n.val) = true) (c : UInt8) : p c = true := by
  have h1 := h ⟨c.toNat, c.toNat_lt⟩
  simpa only [UInt8.ofNat_toNat] using h1
theorem ok_text : ∀ c, okW id c (outV (prsE false) c) = true := all_u8 (by decide +kernel)
theorem ok_attr : ∀ c, okW id c (outV (prsE true) c) = true := all_u8 (by decide +kernel)
theorem ok_value : ∀ c, okW (tU prsB) c (outV (prsE true) c) = true := all_u8 (by decide +kernel)
theorem expand_s (s : ByteArray) (hs : s.size ≤ 1000000000) (w : World) (hE : LaidE w) :
    Calls Tryz.prog 9 #[.string s] w fun e w' => e = OutX (sc id none s.data.toList) ∧ Below w.heap.size w w' := by
  have h := expand_c s hs w hE
  rw [bmap_same] at h
  have e := expR_sc id (s.size + 1) s.data.toList [] (by rw [← Lib.size_eq]; exact Nat.lt_succ_self _)
  rw [ba_list] at e
  rw [e] at h
  simpa using h
theorem value_s (s : ByteArray) (hs : s.size ≤ 1000000000) (w : World) (hE : LaidE w) :
    Calls Tryz.prog 11 #[.string s] w fun e w' => e = OutX (sc (tU prsB) none s.data.toList) ∧ Below w.heap.size w w' := by
  have h := value_c s hs w hE
  have e := expR_sc (tU prsB) (s.size + 1) s.data.toList [] (by rw [← Lib.size_eq]; exact Nat.lt_succ_self _)
  rw [ba_list] at e
  rw [e] at h
  simpa using h
end Go.Proofs.YtdcgcccaaooclaaGreatDoor.Rep
end
section
/- broadsheetlaw06.EscapeParts holds. -/
set_option linter.unusedVariables false
set_option linter.unusedSimpArgs false
set_option maxRecDepth 20000
namespace Go.Proofs.YtdcgcccaaooclaaGreatDoor.Rep
open Go.RowKit Go.Lib Go.Proofs.YtdcgcccaaooclaaGreatDoorW.PrintWords Go.Proofs.YtdcgcccaaooclaaGreatDoorW.PrintLast Go.Proofs.YtdcgcccaaooclaaGreatDoorW.PrintMore
/-- How Expand and Value answer: a text, a number. -/
def AnsX (x : ByteArray) (n : Int) : Ending := .returned (.tuple #[.string x, .int .i64 n])
theorem outX_some (l : List UInt8) : OutX (some l) = AnsX ⟨l.toArray⟩ 0 := rfl
def CX (f : Nat) (s x : ByteArray) (n : Int) : Prop := ∀ W, LaidE W → Calls Tryz.prog f #[.string s] W fun e w' => e = AnsX x n ∧ Below W.heap.size W w'
theorem arr_size (a : List UInt8) : (⟨a.toArray⟩ : ByteArray).size = a.length := by show a.toArray.size = _; simp
end Go.Proofs.YtdcgcccaaooclaaGreatDoor.Rep
end
section
/- broadsheetlaw06.EscapeBack holds. -/
set_option linter.unusedVariables false
set_option linter.unusedSimpArgs false
set_option maxRecDepth 20000
namespace Go.Proofs.YtdcgcccaaooclaaGreatDoor.Rep
open Go.RowKit Go.Lib Go.Proofs.YtdcgcccaaooclaaGreatDoorW.PrintWords Go.Proofs.YtdcgcccaaooclaaGreatDoorW.PrintLast Go.Proofs.YtdcgcccaaooclaaGreatDoorW.PrintMore
/-- A byte that a text with references may hold; that a value may hold. -/
def okA (c : UInt8) : Bool := decide (c.toNat ≠ 60) && decide (c.toNat ≠ 62) && decide (c.toNat ≠ 13)
def okB (c : UInt8) : Bool := decide (c.toNat ≠ 60) && decide (c.toNat ≠ 62) && decide (c.toNat ≠ 34) && decide (c.toNat ≠ 9) && decide (c.toNat ≠ 10) && decide (c.toNat ≠ 13)
theorem all_text : ∀ c, (outV (prsE false) c).all okA = true := all_u8 (by decide +kernel)
theorem all_value : ∀ c, (outV (prsE true) c).all okB = true := all_u8 (by decide +kernel)
theorem len_out (attr : Bool) : ∀ c, decide ((outV (prsE attr) c).length ≤ 6) = true := by cases attr <;> exact all_u8 (by decide +kernel)
theorem out_all {p : UInt8 → Bool} {v : UInt8 → List UInt8} (h : ∀ c, (v c).all p = true) (s : List UInt8) : (s.flatMap v).all p = true := by
  induction s with
  | nil => rfl
  | cons c s ih => rw [List.flatMap_cons, List.all_append, h, ih]; rfl
theorem esc_len (attr : Bool) (s : List UInt8) : (outS (prsE attr) s).length ≤ 6 * s.length := by
  induction s with
  | nil => exact Nat.le_refl _
  | cons c s ih =>
    show (outV (prsE attr) c ++ outS (prsE attr) s).length ≤ _
    have := of_decide_eq_true (len_out attr c)
    rw [List.length_append, List.length_cons]
    omega
theorem at_all {p : UInt8 → Bool} {S : ByteArray} (h : S.data.toList.all p = true) (i : Nat) (hi : i < S.size) : p S[i] = true := by
  have h1 : i < S.data.toList.length := by rw [← Lib.size_eq]; exact hi
  exact List.all_eq_true.1 h _ (List.getElem_mem h1)
set_option maxHeartbeats 4000000 in
theorem back_big (s : ByteArray) (h : 3000 < s.size) (w : World) (hE : LaidE w) :
    Calls Tryz.prog 5 #[.string s] w fun e w' => e = .returned (.bool true) ∧ Below w.heap.size w w' := by
  have CA := Lib.hid (awake_c w hE)
  clear hE
  have q1 := eq_true (show (3000 : Int) < (s.size : Int) by omega)
  clear h
  go_enter Tryz.func5, Tryz.ntmps5
  go_wp2_with (first | (go_at_call 8; refine CA.out.mono ?_))
  intro e w1; first | (rintro rfl hb) | (rintro ⟨rfl, hb⟩)
  have HB1 := Lib.hid hb
  clear hb
  go_wp2_with fail
  go_ret
  exact ⟨rfl, HB1.out⟩
set_option maxHeartbeats 4000000 in
theorem back_walk (s : ByteArray) (hs : s.size ≤ 3000) (SA SB : ByteArray) (hA : SA.data.toList.all okA = true) (hB : SB.data.toList.all okB = true) (lA : SA.size ≤ 100000) (lB : SB.size ≤ 100000) (w : World) (hE : LaidE w)
    (c1 : ∀ W, Calls Tryz.prog 13 #[.string s, .bool false] W fun e w' => e = .returned (.string SA) ∧ Below W.heap.size W w')
    (c2 : ∀ W, Calls Tryz.prog 13 #[.string s, .bool true] W fun e w' => e = .returned (.string SB) ∧ Below W.heap.size W w')
    (c3 : CX 9 SA s 0) (c4 : CX 11 SB s 0) (c5 : CX 9 SB s 0) :
    Calls Tryz.prog 5 #[.string s] w fun e w' => e = .returned (.bool true) ∧ Below w.heap.size w w' := by
  have CA := Lib.hid (awake_c w hE)
  have C1 := Lib.hid c1
  have C2 := Lib.hid c2
  have C3 := Lib.hid c3
  have C4 := Lib.hid c4
  have C5 := Lib.hid c5
  have HE := Lib.hid hE
  have HA := Lib.hid (And.intro hA lA)
  have HB := Lib.hid (And.intro hB lB)
  have q1 := eq_false (show ¬ (3000 : Int) < (s.size : Int) by omega)
  clear c1 c2 c3 c4 c5 hE hs hA hB lA lB
  go_enter Tryz.func5, Tryz.ntmps5
  go_wp2_with (first | (go_at_call 8; refine CA.out.mono ?_))
  intro e w1; first | (rintro rfl hb) | (rintro ⟨rfl, hb⟩)
  have HB1 := Lib.hid hb
  clear hb
  go_wp2_with (first | (go_at_call 13; refine (C1.out _).mono ?_))
  intro e w2; first | (rintro rfl hb) | (rintro ⟨rfl, hb⟩)
  have HB2 := Lib.hid (HB1.out.trans (hb.mono HB1.out.size))
  clear hb
  go_wp2_with (first | (go_at_call 13; refine (C2.out _).mono ?_))
  intro e w3; first | (rintro rfl hb) | (rintro ⟨rfl, hb⟩)
  have HB3 := Lib.hid (HB2.out.trans (hb.mono HB2.out.size))
  clear hb
  go_wp2_with fail
  go_loopg [6] SA.size (fun kx s6 wr => ∃ i : Nat, s6 = .int .i64 (i : Int) ∧ i ≤ SA.size ∧ SA.size - i ≤ kx ∧ Hid (Below w.heap.size w wr))
  case atStart => exact ⟨0, rfl, Nat.zero_le _, Nat.le_refl _, HB3⟩
  case round =>
    obtain ⟨i, rfl, hi, hkx, HW⟩ := hrel
    by_cases hlt : i < SA.size
    · have hok := at_all HA.out.1 i hlt
      obtain ⟨c, hc⟩ : ∃ c, c = SA[i] := ⟨_, rfl⟩
      rw [← hc] at hok
      have hgi : ∀ h : i < SA.size, SA[i] = c := fun _ => hc.symm
      simp only [okA, Bool.and_eq_true, decide_eq_true_eq] at hok
      have e60 : ((c.toNat : Int) == 60) = false := beq_eq_false_iff_ne.2 (by omega)
      have e62 : ((c.toNat : Int) == 62) = false := beq_eq_false_iff_ne.2 (by omega)
      have e13 : ((c.toNat : Int) == 13) = false := beq_eq_false_iff_ne.2 (by omega)
      have HI := Lib.hid (And.intro hlt hkx)
      have p1 : decide ((0 : Int) ≤ (i : Int)) = true := decide_eq_true (by omega)
      have qq : decide ((i : Int) < (SA.size : Int)) = true := decide_eq_true (by omega)
      have p2 := eq_true (show (0 : Int) ≤ (i : Int) by omega)
      have q2 := eq_true (show (i : Int) < (SA.size : Int) by omega)
      have Q4 := Lib.hid (show wrap64 ((i : Int) + 1) = (i : Int) + 1 from Go.IntWalk.wrap64_in _ (by have := HA.out.2; omega))
      clear hok hc hi hkx hlt
      go_wp2_with fail
      go_roundg (SA.size - (i + 1))
      case measure => have := HI.out; omega
      case rel => exact ⟨i + 1, by rw [Q4.out]; rfl, by have := HI.out; omega, Nat.le_refl _, HW⟩
    · obtain rfl : i = SA.size := by omega
      have qq : decide ((SA.size : Int) < (SA.size : Int)) = false := decide_eq_false (by omega)
      clear hi hkx hlt
      go_wp2_with fail
      go_loopg [7] SB.size (fun kx s7 wr => ∃ i : Nat, s7 = .int .i64 (i : Int) ∧ i ≤ SB.size ∧ SB.size - i ≤ kx ∧ Hid (Below w.heap.size w wr))
      case atStart => exact ⟨0, rfl, Nat.zero_le _, Nat.le_refl _, HW⟩
      case round =>
        clear HW qq
        obtain ⟨i, rfl, hi, hkx, HW⟩ := hrel
        by_cases hlt : i < SB.size
        · have hok := at_all HB.out.1 i hlt
          obtain ⟨c, hc⟩ : ∃ c, c = SB[i] := ⟨_, rfl⟩
          rw [← hc] at hok
          have hgi : ∀ h : i < SB.size, SB[i] = c := fun _ => hc.symm
          simp only [okB, Bool.and_eq_true, decide_eq_true_eq] at hok
          have e60 : ((c.toNat : Int) == 60) = false := beq_eq_false_iff_ne.2 (by omega)
          have e62 : ((c.toNat : Int) == 62) = false := beq_eq_false_iff_ne.2 (by omega)
          have e34 : ((c.toNat : Int) == 34) = false := beq_eq_false_iff_ne.2 (by omega)
          have e9 : ((c.toNat : Int) == 9) = false := beq_eq_false_iff_ne.2 (by omega)
          have e10 : ((c.toNat : Int) == 10) = false := beq_eq_false_iff_ne.2 (by omega)
          have e13 : ((c.toNat : Int) == 13) = false := beq_eq_false_iff_ne.2 (by omega)
          have HI := Lib.hid (And.intro hlt hkx)
          have p1 : decide ((0 : Int) ≤ (i : Int)) = true := decide_eq_true (by omega)
          have qq : decide ((i : Int) < (SB.size : Int)) = true := decide_eq_true (by omega)
          have p2 := eq_true (show (0 : Int) ≤ (i : Int) by omega)
          have q2 := eq_true (show (i : Int) < (SB.size : Int) by omega)
          have Q4 := Lib.hid (show wrap64 ((i : Int) + 1) = (i : Int) + 1 from Go.IntWalk.wrap64_in _ (by have := HB.out.2; omega))
          clear hok hc hi hkx hlt
          by_cases h32 : c.toNat < 32
          · have l1 : decide ((c.toNat : Int) < 32) = true := decide_eq_true (by omega)
            have l2 := eq_true (show (c.toNat : Int) < 32 by omega)
            have l3 := eq_true h32
            clear h32
            go_wp2_with fail
            go_roundg (SB.size - (i + 1))
            case measure => have := HI.out; omega
            case rel => exact ⟨i + 1, by rw [Q4.out]; rfl, by have := HI.out; omega, Nat.le_refl _, HW⟩
          · have l1 : decide ((c.toNat : Int) < 32) = false := decide_eq_false (by omega)
            have l2 := eq_false (show ¬ (c.toNat : Int) < 32 by omega)
            have l3 := eq_false h32
            clear h32
            go_wp2_with fail
            go_roundg (SB.size - (i + 1))
            case measure => have := HI.out; omega
            case rel => exact ⟨i + 1, by rw [Q4.out]; rfl, by have := HI.out; omega, Nat.le_refl _, HW⟩
        · obtain rfl : i = SB.size := by omega
          have qq : decide ((SB.size : Int) < (SB.size : Int)) = false := decide_eq_false (by omega)
          clear hi hkx hlt
          go_wp2_with (first | (go_at_call 9; refine (C3.out _ (HE.out.below HW.out)).mono ?_))
          intro e w4; first | (rintro rfl hb) | (rintro ⟨rfl, hb⟩)
          have HB4 := Lib.hid (HW.out.trans (hb.mono HW.out.size))
          clear hb
          simp only [AnsX]
          go_wp2_with (first | (go_at_call 11; refine (C4.out _ (HE.out.below HB4.out)).mono ?_))
          intro e w5; first | (rintro rfl hb) | (rintro ⟨rfl, hb⟩)
          have HB5 := Lib.hid (HB4.out.trans (hb.mono HB4.out.size))
          clear hb
          simp only [AnsX]
          go_wp2_with (first | (go_at_call 9; refine (C5.out _ (HE.out.below HB5.out)).mono ?_))
          intro e w6; first | (rintro rfl hb) | (rintro ⟨rfl, hb⟩)
          have HB6 := Lib.hid (HB5.out.trans (hb.mono HB5.out.size))
          clear hb
          simp only [AnsX]
          go_wp2_with fail
          go_ret
          exact ⟨rfl, HB6.out⟩
theorem back_c (s : ByteArray) (w : World) (hE : LaidE w) :
    Calls Tryz.prog 5 #[.string s] w fun e w' => e = .returned (.bool true) ∧ Below w.heap.size w w' := by
  by_cases h : 3000 < s.size
  · exact back_big s h w hE
  · have hs : s.size ≤ 3000 := by omega
    have lA := esc_len false s.data.toList
    have lB := esc_len true s.data.toList
    rw [← Lib.size_eq] at lA lB
    have sA : (⟨(outS (prsE false) s.data.toList).toArray⟩ : ByteArray).size ≤ 100000 := by rw [arr_size]; omega
    have sB : (⟨(outS (prsE true) s.data.toList).toArray⟩ : ByteArray).size ≤ 100000 := by rw [arr_size]; omega
    refine back_walk s hs _ _ ?_ ?_ sA sB w hE (fun W => escape_c s false (by omega) W) (fun W => escape_c s true (by omega) W) ?_ ?_ ?_
    · exact out_all all_text s.data.toList
    · exact out_all all_value s.data.toList
    · intro W hW
      have h := expand_s ⟨(outS (prsE false) s.data.toList).toArray⟩ (by omega) W hW
      have e : sc id none (⟨(outS (prsE false) s.data.toList).toArray⟩ : ByteArray).data.toList = some s.data.toList := sc_out ok_text s.data.toList
      rw [e, outX_some, ba_list] at h
      exact h
    · intro W hW
      have h := value_s ⟨(outS (prsE true) s.data.toList).toArray⟩ (by omega) W hW
      have e : sc (tU prsB) none (⟨(outS (prsE true) s.data.toList).toArray⟩ : ByteArray).data.toList = some s.data.toList := sc_out ok_value s.data.toList
      rw [e, outX_some, ba_list] at h
      exact h
    · intro W hW
      have h := expand_s ⟨(outS (prsE true) s.data.toList).toArray⟩ (by omega) W hW
      have e : sc id none (⟨(outS (prsE true) s.data.toList).toArray⟩ : ByteArray).data.toList = some s.data.toList := sc_out ok_attr s.data.toList
      rw [e, outX_some, ba_list] at h
      exact h
end Go.Proofs.YtdcgcccaaooclaaGreatDoor.Rep
end
