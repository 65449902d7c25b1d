/- A node under way in a block of its own; El and Plain, by hand. Printed by wip/A15/genmis.py. -/
import Derived.Test.YtcplaafmelcndaaGreatDoorBd1
import Derived.Test.YtcplaafmelcndaaGreatDoorChk
set_option linter.unusedVariables false
set_option linter.unusedSimpArgs false
set_option maxRecDepth 20000
namespace Go.Proofs.YtcplaafmelcndaaGreatDoor.At
open Go.RowKit Go.Lib Go.Proofs.YtcplaafmelcndaaGreatDoor.Pr Go.Proofs.YtcplaafmelcndaaGreatDoorW.PrintWords Go.Proofs.YtcplaafmelcndaaGreatDoorW.PrintLast Go.Proofs.YtcplaafmelcndaaGreatDoorW.PrintMore
theorem N_any {α : Type} {d : Kd α} {e : Nat} {w : World} {base : Nat} {ok : Nat → Prop} {v : Value} {xs : List α} (h : Kd.N d e w base ok v xs) : ∃ A n c, v = .slice A n c := by
  obtain ⟨A, c, rfl⟩ := Kd.N_slice h
  exact ⟨A, _, c, rfl⟩
theorem grown_belowK {w W w1 : World} (hb : Below w.heap.size w w1) (hw : Below w.heap.size w W) (hg : W.grownBy w1 none) : Below W.heap.size W w1 := ⟨hb.os.trans hw.os.symm, hb.tape.trans hw.tape.symm, hb.output.trans hw.output.symm, hg.size, fun k hk => hg.block k hk (by simp)⟩
/-- A node under way in a block of its own (g4), beside another block (g2). -/
structure MI (C2 : Array Value) (w W : World) (g2 g4 : Nat) (m : Nat) (x : S25) (v3 v4 : Value) : Prop where
  bw : Below w.heap.size w W
  b2 : W.heap[g2]? = some (.cells C2 25 (0, 0))
  b4 : W.heap[g4]? = some (.cells #[.int .i64 x.f0, .string x.f1, .string x.f2, v3, v4, .string x.f5] 25 (0, 0))
  o4 : w.heap.size ≤ g4
  n24 : g2 ≠ g4
  r3 : Kd.N k41 41 W w.heap.size (fun k => w.heap.size ≤ k ∧ k ≠ g2 ∧ k ≠ g4) v3 x.f3
  r4 : Kd.N k25 25 W w.heap.size (fun k => (w.heap.size ≤ k ∧ k ≠ g2 ∧ k ≠ g4) ∧ some k ≠ v3.ownBlock) v4 x.f4
  sm : KSm m x
section
variable {C2 : Array Value} {w W W1 : World} {g2 g4 : Nat} {m : Nat} {x : S25} {v3 v4 : Value}
theorem MI.step (h : MI C2 w W g2 g4 m x v3 v4) (hb : Below W.heap.size W W1) : MI C2 w W1 g2 g4 m x v3 v4 :=
  ⟨h.bw.trans (hb.mono h.bw.size), blk_below h.b2 hb, blk_below h.b4 hb, h.o4, h.n24, Kd.N_below h.r3 hb, Kd.N_below h.r4 hb, h.sm⟩
theorem MI.le {m' : Nat} (h : MI C2 w W g2 g4 m x v3 v4) (hm : m ≤ m') : MI C2 w W g2 g4 m' x v3 v4 := ⟨h.bw, h.b2, h.b4, h.o4, h.n24, h.r3, h.r4, h.sm.le hm⟩
theorem MI.c4 (h : MI C2 w W g2 g4 m x v3 v4) : W.cell? ⟨g4, 4, none⟩ = some v4 ∧ W.frozen? ⟨g4, 4, none⟩ = false := ⟨(blk_cell h.b4 4).trans rfl, blk_frozen h.b4 4⟩
theorem MI.fresh (h : MI C2 w W g2 g4 m x v3 v4) : ∀ k, W.heap.size ≤ k → ((w.heap.size ≤ k ∧ k ≠ g2 ∧ k ≠ g4) ∧ some k ≠ v3.ownBlock) ∧ some k ≠ v4.ownBlock := by
  intro k hk
  have h2 := blk_lt h.b2
  have h4 := blk_lt h.b4
  have h0 := h.bw.size
  refine ⟨⟨⟨by omega, by omega, by omega⟩, fun e => ?_⟩, fun e => ?_⟩
  · have := Kd.N_lt h.r3 k e.symm; omega
  · have := Kd.N_lt h.r4 k e.symm; omega
/-- The kids' row has been written over, or made longer: ahead of the store, and behind it. -/
theorem MI.put4 {v : Value} {l : List S25} {m' : Nat} (h : MI C2 w W g2 g4 m x v3 v4) (hn : Kd.N k25 25 W1 w.heap.size (fun k => (w.heap.size ≤ k ∧ k ≠ g2 ∧ k ≠ g4) ∧ some k ≠ v3.ownBlock) v l) (hb : Below w.heap.size w W1) (hm : ∀ k, k < W.heap.size → some k ≠ v4.ownBlock → W1.heap[k]? = W.heap[k]?)
    (hs : KSm m' ⟨x.f0, x.f1, x.f2, x.f3, l, x.f5⟩) : (W1.cell? ⟨g4, 4, none⟩ = some v4 ∧ W1.frozen? ⟨g4, 4, none⟩ = false) ∧ MI C2 w (W1.setCell ⟨g4, 4, none⟩ v) g2 g4 m' ⟨x.f0, x.f1, x.f2, x.f3, l, x.f5⟩ v3 v := by
  have hne : ∀ k, (k = g2 ∨ k = g4) → some k ≠ v4.ownBlock := fun k hk e => by
    have h1 := h.r4.1 k e.symm
    rcases hk with rfl | rfl
    · exact h1.1.2.1 rfl
    · exact h1.1.2.2 rfl
  have q2 := (hm g2 (blk_lt h.b2) (hne _ (.inl rfl))).trans h.b2
  have q4 := (hm g4 (blk_lt h.b4) (hne _ (.inr rfl))).trans h.b4
  have o4 := h.o4
  have r3' : Kd.N k41 41 W1 w.heap.size (fun k => w.heap.size ≤ k ∧ k ≠ g2 ∧ k ≠ g4) v3 x.f3 := by
    refine ⟨h.r3.1, ?_⟩
    obtain ⟨_, rows, e1, e2, e3⟩ := h.r3
    refine ⟨rows, e1, ?_, fun j y cs hy hc => ?_⟩
    · refine Kd.R_step e2 (fun k hk hlt => hm k hlt (fun e => ?_))
      exact (h.r4.1 k e.symm).2 hk
    · refine Kd.FK_of_M (base := 0) ?_
      have hk := e3 j y cs hy hc
      have := Kd.FK_now hk
      obtain rfl := k41_open this
      exact k41_mkM _ _ _ y
  refine ⟨⟨(blk_cell q4 4).trans rfl, blk_frozen q4 4⟩, below_set hb o4, blk_far q2 h.n24 _, blk_put q4 4 v rfl, o4, h.n24, Kd.N_far r3' (fun k hk => hk.2.2) _, Kd.N_far hn (fun k hk => hk.1.2.2) _, hs⟩
theorem MI.start {w1 w2 w3 : World} (hb1 : Below w.heap.size w w1) (b2 : w1.heap[g2]? = some (.cells C2 25 (0, 0))) (hb2 : Below w1.heap.size w1 w2) (h3 : Kd.N k41 41 w2 w1.heap.size (fun k => w1.heap.size ≤ k) v3 x.f3) (h4 : Kd.N k25 25 w2 w1.heap.size (fun k => w1.heap.size ≤ k ∧ some k ≠ v3.ownBlock) v4 x.f4) (hs : KSm m x) {u0 u1 u2 u3 u4 u5 : Value} (b4 : w3.heap[g4]? = some (.cells #[u0, u1, u2, u3, u4, u5] 25 (0, 0))) (hg : g4 = w2.heap.size) (hb3 : Below w2.heap.size w2 w3) :
    MI C2 w ((((((w3.setCell ⟨g4, 0, none⟩ (.int .i64 x.f0)).setCell ⟨g4, 1, none⟩ (.string x.f1)).setCell ⟨g4, 2, none⟩ (.string x.f2)).setCell ⟨g4, 3, none⟩ v3).setCell ⟨g4, 4, none⟩ v4).setCell ⟨g4, 5, none⟩ (.string x.f5)) g2 g4 m x v3 v4 := by
  have z1 := hb1.size
  have z2 := hb2.size
  have z3 := blk_lt b2
  have hge : w.heap.size ≤ g4 := by omega
  have q2 := blk_below (blk_below b2 hb2) hb3
  have n2 : g2 ≠ g4 := by omega
  have r3 : Kd.N k41 41 w3 w.heap.size (fun k => w.heap.size ≤ k ∧ k ≠ g2 ∧ k ≠ g4) v3 x.f3 := Kd.N_below (Kd.N_lower (Kd.N_mono (Kd.N_bound h3) (fun k hk => by obtain ⟨h1, h2⟩ := hk; exact ⟨by omega, by omega, by omega⟩)) z1) hb3
  have r4 : Kd.N k25 25 w3 w.heap.size (fun k => (w.heap.size ≤ k ∧ k ≠ g2 ∧ k ≠ g4) ∧ some k ≠ v3.ownBlock) v4 x.f4 := Kd.N_below (Kd.N_lower (Kd.N_mono (Kd.N_bound h4) (fun k hk => by obtain ⟨⟨h1, h3⟩, h2⟩ := hk; exact ⟨⟨by omega, by omega, by omega⟩, h3⟩)) z1) hb3
  refine ⟨?_, ?_, ?_, hge, n2, ?_, ?_, hs⟩
  · exact (below_set (below_set (below_set (below_set (below_set (below_set ((hb1.trans (hb2.mono z1)).trans (hb3.mono (Nat.le_trans z1 z2))) hge) hge) hge) hge) hge) hge)
  · exact (blk_far (blk_far (blk_far (blk_far (blk_far (blk_far q2 (p := ⟨g4, 0, none⟩) n2 _) (p := ⟨g4, 1, none⟩) n2 _) (p := ⟨g4, 2, none⟩) n2 _) (p := ⟨g4, 3, none⟩) n2 _) (p := ⟨g4, 4, none⟩) n2 _) (p := ⟨g4, 5, none⟩) n2 _)
  · exact (blk_put (blk_put (blk_put (blk_put (blk_put (blk_put b4 0 _ rfl) 1 _ rfl) 2 _ rfl) 3 _ rfl) 4 _ rfl) 5 _ rfl)
  · exact (Kd.N_far (p := ⟨g4, 5, none⟩) (Kd.N_far (p := ⟨g4, 4, none⟩) (Kd.N_far (p := ⟨g4, 3, none⟩) (Kd.N_far (p := ⟨g4, 2, none⟩) (Kd.N_far (p := ⟨g4, 1, none⟩) (Kd.N_far (p := ⟨g4, 0, none⟩) r3 (fun _ hk => hk.2.2) _) (fun _ hk => hk.2.2) _) (fun _ hk => hk.2.2) _) (fun _ hk => hk.2.2) _) (fun _ hk => hk.2.2) _) (fun _ hk => hk.2.2) _)
  · exact (Kd.N_far (p := ⟨g4, 5, none⟩) (Kd.N_far (p := ⟨g4, 4, none⟩) (Kd.N_far (p := ⟨g4, 3, none⟩) (Kd.N_far (p := ⟨g4, 2, none⟩) (Kd.N_far (p := ⟨g4, 1, none⟩) (Kd.N_far (p := ⟨g4, 0, none⟩) r4 (fun _ hk => hk.1.2.2) _) (fun _ hk => hk.1.2.2) _) (fun _ hk => hk.1.2.2) _) (fun _ hk => hk.1.2.2) _) (fun _ hk => hk.1.2.2) _) (fun _ hk => hk.1.2.2) _)
theorem MI.cells (h : MI C2 w W g2 g4 m x v3 v4) : W.cell? ⟨g4, 0, none⟩ = some (.int .i64 x.f0) ∧ W.cell? ⟨g4, 1, none⟩ = some (.string x.f1) ∧ W.cell? ⟨g4, 2, none⟩ = some (.string x.f2) ∧ W.cell? ⟨g4, 3, none⟩ = some v3 ∧ W.cell? ⟨g4, 4, none⟩ = some v4 ∧ W.cell? ⟨g4, 5, none⟩ = some (.string x.f5) := box6 h.b4
theorem MI.blk2 {u0 u1 u2 u3 u4 u5 : Value} (h : MI #[u0, u1, u2, u3, u4, u5] w W g2 g4 m x v3 v4) : ((((((W.setCell ⟨g2, 0, none⟩ (.int .i64 x.f0)).setCell ⟨g2, 1, none⟩ (.string x.f1)).setCell ⟨g2, 2, none⟩ (.string x.f2)).setCell ⟨g2, 3, none⟩ v3).setCell ⟨g2, 4, none⟩ v4).setCell ⟨g2, 5, none⟩ (.string x.f5)).heap[g2]? = some (.cells #[.int .i64 x.f0, .string x.f1, .string x.f2, v3, v4, .string x.f5] 25 (0, 0)) :=
  (blk_put (blk_put (blk_put (blk_put (blk_put (blk_put h.b2 0 _ rfl) 1 _ rfl) 2 _ rfl) 3 _ rfl) 4 _ rfl) 5 _ rfl)
theorem MI.done {A3 A4 : Option Addr} {n3 c3 n4 c4 : Nat} (h : MI C2 w W g2 g4 m x (.slice A3 n3 c3) (.slice A4 n4 c4)) (hge : w.heap.size ≤ g2) :
    Kd.FK k25 ((((((W.setCell ⟨g2, 0, none⟩ (.int .i64 x.f0)).setCell ⟨g2, 1, none⟩ (.string x.f1)).setCell ⟨g2, 2, none⟩ (.string x.f2)).setCell ⟨g2, 3, none⟩ (.slice A3 n3 c3)).setCell ⟨g2, 4, none⟩ (.slice A4 n4 c4)).setCell ⟨g2, 5, none⟩ (.string x.f5)) (fun k => w.heap.size ≤ k) x [.int .i64 x.f0, .string x.f1, .string x.f2, .slice A3 n3 c3, .slice A4 n4 c4, .string x.f5] ∧ Below w.heap.size w ((((((W.setCell ⟨g2, 0, none⟩ (.int .i64 x.f0)).setCell ⟨g2, 1, none⟩ (.string x.f1)).setCell ⟨g2, 2, none⟩ (.string x.f2)).setCell ⟨g2, 3, none⟩ (.slice A3 n3 c3)).setCell ⟨g2, 4, none⟩ (.slice A4 n4 c4)).setCell ⟨g2, 5, none⟩ (.string x.f5)) := by
  obtain ⟨l3, e3, f3⟩ := Kd.N_reads' h.r3
  obtain ⟨l4, e4, f4⟩ := Kd.N_reads' h.r4
  have k3 := (Kd.N_far (p := ⟨g2, 5, none⟩) (Kd.N_far (p := ⟨g2, 4, none⟩) (Kd.N_far (p := ⟨g2, 3, none⟩) (Kd.N_far (p := ⟨g2, 2, none⟩) (Kd.N_far (p := ⟨g2, 1, none⟩) (Kd.N_far (p := ⟨g2, 0, none⟩) h.r3 (fun _ hk => hk.2.1) (.int .i64 x.f0)) (fun _ hk => hk.2.1) (.string x.f1)) (fun _ hk => hk.2.1) (.string x.f2)) (fun _ hk => hk.2.1) (.slice A3 n3 c3)) (fun _ hk => hk.2.1) (.slice A4 n4 c4)) (fun _ hk => hk.2.1) (.string x.f5))
  have k4 := (Kd.N_far (p := ⟨g2, 5, none⟩) (Kd.N_far (p := ⟨g2, 4, none⟩) (Kd.N_far (p := ⟨g2, 3, none⟩) (Kd.N_far (p := ⟨g2, 2, none⟩) (Kd.N_far (p := ⟨g2, 1, none⟩) (Kd.N_far (p := ⟨g2, 0, none⟩) h.r4 (fun _ hk => hk.1.2.1) (.int .i64 x.f0)) (fun _ hk => hk.1.2.1) (.string x.f1)) (fun _ hk => hk.1.2.1) (.string x.f2)) (fun _ hk => hk.1.2.1) (.slice A3 n3 c3)) (fun _ hk => hk.1.2.1) (.slice A4 n4 c4)) (fun _ hk => hk.1.2.1) (.string x.f5))
  subst l3
  subst l4
  exact ⟨k25_mkF _ _ x e3 (Kd.F_mono (Kd.N_F k3) (fun _ hk => hk.1)) e4 (Kd.F_mono (Kd.N_F k4) (fun _ hk => hk.1.1)), (below_set (below_set (below_set (below_set (below_set (below_set h.bw hge) hge) hge) hge) hge) hge)⟩
end
section
variable {ops : Array Oper} {rest : List Oper} {o : Oper} {a' : Act} {Q : Exit → Act → World → Prop} {Kc : Act → World → Prop}
variable {C2 : Array Value} {w W : World} {g2 g4 : Nat} {m : Nat} {x xe : S25} {v3 v4 va vb : Value} {N : Tmp}
theorem MI.nlit1_step {okp : Nat → Prop} (h : MI C2 w W g2 g4 m x v3 v4) (hE : Kd.FK k25 W okp xe [.int .i64 xe.f0, .string xe.f1, .string xe.f2, va, vb, .string xe.f5]) (hok : ∀ k, okp k → (fun k => ((w.heap.size ≤ k ∧ k ≠ g2 ∧ k ≠ g4) ∧ some k ≠ v3.ownBlock) ∧ some k ≠ v4.ownBlock) k) (hw : Region.wanted o (yielded ops a'.tmps) = true) (hd : o.dst = some N)
    (hrun : (execOp a'.eval o).run Tryz.prog W = .ok (.value (.slice (some ⟨W.heap.size, 0, none⟩) 1 1)) (W.alloc (.cells #[.int .i64 xe.f0, .string xe.f1, .string xe.f2, va, vb, .string xe.f5] 25)))
    (K : ∀ A c' w1, MI C2 w w1 g2 g4 m x v3 v4 → Kd.F k25 w1 (fun k => ((w.heap.size ≤ k ∧ k ≠ g2 ∧ k ≠ g4) ∧ some k ≠ v3.ownBlock) ∧ some k ≠ v4.ownBlock) A 1 [xe] → Kc (a'.put o.dst (.slice A 1 c')) w1) : if Region.wanted o (yielded ops a'.tmps) = true then Oper.wp Tryz.prog o a' W Kc Q else Kc (a'.put o.dst undef) W :=
  Kd.N_lit_step k25 (w0 := w) w.heap.size 25 hw hd (xs := [xe]) (inner := [.int .i64 xe.f0, .string xe.f1, .string xe.f2, va, vb, .string xe.f5]) (ok := (fun k => ((w.heap.size ≤ k ∧ k ≠ g2 ∧ k ≠ g4) ∧ some k ≠ v3.ownBlock) ∧ some k ≠ v4.ownBlock)) (okp := okp) hrun (Reps.c6 hE (Reps.none _ _)) hok (h.fresh _ (Nat.le_refl _)) h.bw h.bw.size (by simp)
    (fun v1 w1 hn hb hg hat => by
      obtain ⟨A, c', rfl⟩ := Kd.N_slice hn
      exact K A c' w1 (h.step (grown_belowK hb h.bw hg)) (Kd.N_F hn))
theorem MI.app_step {s y : Operand} {A : Option Addr} {n k' : Nat} {ys : List S25} (h : MI C2 w W g2 g4 m x v3 v4) (hw : Region.wanted o (yielded ops a'.tmps) = true) (hd : o.dst = some N)
    (ho : o.op = .call { callee := .builtin .append, args := #[s, y], argTypes := #[23, 23] }) (hs : a'.eval s = v4) (hx : a'.eval y = .slice A n k')
    (HF : Kd.F k25 W (fun k => ((w.heap.size ≤ k ∧ k ≠ g2 ∧ k ≠ g4) ∧ some k ≠ v3.ownBlock) ∧ some k ≠ v4.ownBlock) A n ys) (hsm : ∀ z ∈ ys, Sm z) {m' : Nat} (hm : m ≤ m') (hl : x.f4.length + ys.length ≤ m') (hn : n ≤ 3) (hm3 : m ≤ 3000)
    (K : ∀ A n c' w1, w1.cell? ⟨g4, 4, none⟩ = some v4 → w1.frozen? ⟨g4, 4, none⟩ = false → Below w.heap.size w w1 → MI C2 w (w1.setCell ⟨g4, 4, none⟩ (.slice A n c')) g2 g4 m' ⟨x.f0, x.f1, x.f2, x.f3, x.f4 ++ ys, x.f5⟩ v3 (.slice A n c') → Kc (a'.put o.dst (.slice A n c')) w1) : if Region.wanted o (yielded ops a'.tmps) = true then Oper.wp Tryz.prog o a' W Kc Q else Kc (a'.put o.dst undef) W := by
  refine Kd.N_append_rows_step k25 (w0 := w) w.heap.size hw s y 23 25 _ 104 ho Tryz.underlying23 info25 (by rfl) (by decide) (by decide) v4 x.f4 ys A n k' _ _ hs hx h.r4 HF (fun _ hk => hk) (fun k hk => (h.fresh k hk).1) h.bw h.bw.size (by have := h.sm.n4; omega) ?_
  intro v1 w1 hn hb hg hat
  obtain ⟨A1, m1, k1, rfl⟩ := N_any hn
  have hp4 := MI.put4 h hn hb (fun k hk hne => hg.block k hk hne) (h.sm.put4 _ m' hm (by rw [List.length_append]; exact hl) (fun z hz => by rcases List.mem_append.1 hz with hz | hz; exact h.sm.kd4 z hz; exact hsm z hz))
  exact K A1 m1 k1 w1 hp4.1.1 hp4.1.2 hb hp4.2
theorem MI.nlit1 {okp : Nat → Prop} (h : MI C2 w W g2 g4 m x v3 v4) (hE : Kd.FK k25 W okp xe [.int .i64 xe.f0, .string xe.f1, .string xe.f2, va, vb, .string xe.f5]) (hok : ∀ k, okp k → (fun k => ((w.heap.size ≤ k ∧ k ≠ g2 ∧ k ≠ g4) ∧ some k ≠ v3.ownBlock) ∧ some k ≠ v4.ownBlock) k) (hgd : o.guard = none) (hd : o.dst = some N)
    (hrun : (execOp a'.eval o).run Tryz.prog W = .ok (.value (.slice (some ⟨W.heap.size, 0, none⟩) 1 1)) (W.alloc (.cells #[.int .i64 xe.f0, .string xe.f1, .string xe.f2, va, vb, .string xe.f5] 25)))
    (hs : Sm xe) {m' : Nat} (hm : m ≤ m') (h1 : 1 ≤ m')
    (K : ∀ A n c' w1, w1.cell? ⟨g4, 4, none⟩ = some v4 → w1.frozen? ⟨g4, 4, none⟩ = false → MI C2 w (w1.setCell ⟨g4, 4, none⟩ (.slice A n c')) g2 g4 m' ⟨x.f0, x.f1, x.f2, x.f3, [xe], x.f5⟩ v3 (.slice A n c') → wpList Tryz.prog ops Q rest (a'.put o.dst (.slice A n c')) w1) : wpList Tryz.prog ops Q (o :: rest) a' W :=
  Kd.N_lit k25 (w0 := w) w.heap.size 25 hgd hd (xs := [xe]) (inner := [.int .i64 xe.f0, .string xe.f1, .string xe.f2, va, vb, .string xe.f5]) (ok := (fun k => (w.heap.size ≤ k ∧ k ≠ g2 ∧ k ≠ g4) ∧ some k ≠ v3.ownBlock)) (okp := okp) hrun (Reps.c6 hE (Reps.none _ _)) (fun k hk => (hok k hk).1) (h.fresh _ (Nat.le_refl _)).1 h.bw h.bw.size (by simp)
    (fun v1 w1 hn hb hg _ => by
      obtain ⟨A, n, c', rfl⟩ := N_any hn
      have hp4 := MI.put4 h hn hb (fun k hk hne => hg.block k hk (by simp)) (h.sm.put4 _ m' hm h1 (fun z hz => by rw [List.mem_singleton.1 hz]; exact hs))
      exact K A n c' w1 hp4.1.1 hp4.1.2 hp4.2)
end
/-- A plain entry: an author and a title. -/
def plainN (t : ByteArray) : S25 := ⟨0, atomB, entryB, [], [⟨0, atomB, ⟨#[97, 117, 116, 104, 111, 114]⟩, [], [⟨0, atomB, nameB, [], [⟨1, ⟨#[]⟩, ⟨#[]⟩, [], [], ⟨#[65]⟩⟩], ⟨#[]⟩⟩], ⟨#[]⟩⟩, ⟨0, atomB, ⟨#[116, 105, 116, 108, 101]⟩, [], [⟨1, ⟨#[]⟩, ⟨#[]⟩, [], [], t⟩], ⟨#[]⟩⟩], ⟨#[]⟩⟩
theorem sm_leaf (k : Int) (s1 s2 s5 : ByteArray) (h1 : s1.size ≤ 3000) (h2 : s2.size ≤ 3000) (h5 : s5.size ≤ 3000) : Sm ⟨k, s1, s2, [], [], s5⟩ := Sm.mk _ h1 h2 h5 (Nat.zero_le _) (Nat.zero_le _) (fun a ha => by simp at ha) (fun a ha => by simp at ha)
theorem sm_el (s1 s2 : ByteArray) (h1 : s1.size ≤ 3000) (h2 : s2.size ≤ 3000) (y : S25) (hy : Sm y) : Sm ⟨0, s1, s2, [], [y], ⟨#[]⟩⟩ := Sm.mk _ h1 h2 (by decide : (⟨#[]⟩ : ByteArray).size ≤ 3000) (Nat.zero_le _) (by show 1 ≤ 3000; decide) (fun a ha => by simp at ha) (fun a ha => by rw [List.mem_singleton.1 ha]; exact hy)
theorem plain_ksm (t : ByteArray) (ht : t.size ≤ 3000) : KSm 2 (plainN t) := by
  refine ⟨(by decide : atomB.size ≤ 100), (by decide : entryB.size ≤ 100), (by decide : (⟨#[]⟩ : ByteArray).size ≤ 100), Nat.zero_le _, Nat.le_refl _, fun a ha => by simp [plainN] at ha, fun y hy => ?_⟩
  rcases List.mem_cons.1 hy with rfl | hy
  · exact sm_el atomB _ (by decide) (by decide) _ (sm_el atomB nameB (by decide) (by decide) _ (sm_leaf _ ⟨#[]⟩ ⟨#[]⟩ ⟨#[65]⟩ (by decide) (by decide) (by decide)))
  · rw [List.mem_singleton.1 hy]
    exact sm_el atomB _ (by decide) (by decide) _ (sm_leaf _ ⟨#[]⟩ ⟨#[]⟩ t (by decide) (by decide) ht)
/-- An element of Atom with a text. -/
def elK (t : ByteArray) : List S25 := if t.toList = [] then [] else [⟨1, ⟨#[]⟩, ⟨#[]⟩, [], [], t⟩]
theorem elK_sm (t : ByteArray) (ht : t.size ≤ 3000) : ∀ y ∈ elK t, Sm y := by
  intro y hy
  unfold elK at hy
  split at hy
  · cases hy
  · rw [List.mem_singleton.1 hy]
    exact sm_leaf _ ⟨#[]⟩ ⟨#[]⟩ t (by decide) (by decide) ht
theorem elK_len (t : ByteArray) : (elK t).length ≤ 1 := by unfold elK; split <;> simp
def MadeEl (name text : ByteArray) (w : World) (e : Ending) (w' : World) : Prop := ∃ v4, e = .returned (.agg #[.int .i64 0, .string atomB, .string name, .slice none 0 0, v4, .string ⟨#[]⟩]) ∧ Kd.N k25 25 w' w.heap.size (fun k => w.heap.size ≤ k) v4 (elK text) ∧ Below w.heap.size w w'
theorem madeE_bare (lo : Nat) (W : World) (s1 s2 s5 : ByteArray) (k : Int) : MadeE lo W ⟨k, s1, s2, [], [], s5⟩ (.slice none 0 0) (.slice none 0 0) := ⟨Kd.N_nil _ _ _ _ _, Kd.N_nil _ _ _ _ _⟩
theorem MI.doneN {C2 : Array Value} {w W : World} {g2 g4 m : Nat} {x : S25} {v4 : Value} (h : MI C2 w W g2 g4 m x (.slice none 0 0) v4) (hge : w.heap.size ≤ g2) :
    Kd.N k25 25 ((((((W.setCell ⟨g2, 0, none⟩ (.int .i64 x.f0)).setCell ⟨g2, 1, none⟩ (.string x.f1)).setCell ⟨g2, 2, none⟩ (.string x.f2)).setCell ⟨g2, 3, none⟩ (.slice none 0 0)).setCell ⟨g2, 4, none⟩ v4).setCell ⟨g2, 5, none⟩ (.string x.f5)) w.heap.size (fun k => w.heap.size ≤ k) v4 x.f4 ∧ Below w.heap.size w ((((((W.setCell ⟨g2, 0, none⟩ (.int .i64 x.f0)).setCell ⟨g2, 1, none⟩ (.string x.f1)).setCell ⟨g2, 2, none⟩ (.string x.f2)).setCell ⟨g2, 3, none⟩ (.slice none 0 0)).setCell ⟨g2, 4, none⟩ v4).setCell ⟨g2, 5, none⟩ (.string x.f5)) :=
  ⟨Kd.N_mono (Kd.N_far (p := ⟨g2, 5, none⟩) (Kd.N_far (p := ⟨g2, 4, none⟩) (Kd.N_far (p := ⟨g2, 3, none⟩) (Kd.N_far (p := ⟨g2, 2, none⟩) (Kd.N_far (p := ⟨g2, 1, none⟩) (Kd.N_far (p := ⟨g2, 0, none⟩) h.r4 (fun _ hk => hk.1.2.1) (.int .i64 x.f0)) (fun _ hk => hk.1.2.1) (.string x.f1)) (fun _ hk => hk.1.2.1) (.string x.f2)) (fun _ hk => hk.1.2.1) (.slice none 0 0)) (fun _ hk => hk.1.2.1) v4) (fun _ hk => hk.1.2.1) (.string x.f5)) (fun _ hk => hk.1.1), (below_set (below_set (below_set (below_set (below_set (below_set h.bw hge) hge) hge) hge) hge) hge)⟩
theorem MadeEl.of {name text : ByteArray} {C2 : Array Value} {w W : World} {g2 g4 m : Nat} {x : S25} {v4 : Value} {l : List S25} (hx : x = ⟨0, atomB, name, [], l, ⟨#[]⟩⟩) (hl : elK text = l) (h : MI C2 w W g2 g4 m x (.slice none 0 0) v4) (hge : w.heap.size ≤ g2) :
    MadeEl name text w (.returned (.agg #[.int .i64 x.f0, .string x.f1, .string x.f2, .slice none 0 0, v4, .string x.f5])) ((((((W.setCell ⟨g2, 0, none⟩ (.int .i64 x.f0)).setCell ⟨g2, 1, none⟩ (.string x.f1)).setCell ⟨g2, 2, none⟩ (.string x.f2)).setCell ⟨g2, 3, none⟩ (.slice none 0 0)).setCell ⟨g2, 4, none⟩ v4).setCell ⟨g2, 5, none⟩ (.string x.f5)) := by
  obtain ⟨h1, h2⟩ := h.doneN hge
  refine ⟨v4, by rw [hx], ?_, h2⟩
  rw [hl]
  have e : x.f4 = l := by rw [hx]
  rw [← e]
  exact h1
set_option maxHeartbeats 1000000 in
theorem el_e (name text : ByteArray) (w : World) (hn : name.size ≤ 100) (ht : text.size ≤ 3000) : Calls Tryz.prog 16 #[.string name, .string text] w (MadeEl name text w) := by
  have HN := Lib.hid hn
  have HT := Lib.hid ht
  clear hn ht
  obtain ⟨q, hq⟩ : ∃ q : Bool, (text.toList == ([] : List UInt8)) = q := ⟨_, rfl⟩
  have HQ : Hid ((text.toList == ([] : List UInt8)) = q) := hq
  go_enter Tryz.func16, Tryz.ntmps16
  go_upto_if 9 with (first | ((with_reducible refine gate_dst (N := 4) rfl ?_); refine box_event ?hg (N := 4) ?hd (cs := #[.int .i64 0, .string ⟨#[]⟩, .string ⟨#[]⟩, .slice none 0 0, .slice none 0 0, .string ⟨#[]⟩]) (t := 25) ?hr ?_; (case hd => rfl); (case hg => rfl); (case hr => first | (go_simp; done) | (go_simp; rfl)); intro g2 hg_g2 w1 hx_g2 hb_g2; have H2 := Lib.hid (And.intro hx_g2 (And.intro hg_g2 hb_g2)); clear hx_g2 hg_g2 hb_g2) | ((with_reducible refine gate_dst (N := 5) rfl ?_); refine box_event ?hg (N := 5) ?hd (cs := #[.int .i64 0, .string ⟨#[]⟩, .string ⟨#[]⟩, .slice none 0 0, .slice none 0 0, .string ⟨#[]⟩]) (t := 25) ?hr ?_; (case hd => rfl); (case hg => rfl); (case hr => first | (go_simp; done) | (go_simp; rfl)); intro g4 hg_g4 w3 hx_g4 hb_g4; have HK0 := Lib.hid (And.intro hx_g4 (And.intro hg_g4 hb_g4)); obtain ⟨z0, z1, z2, z3, z4, z5⟩ := box6 hx_g4; have y0 := blk_frozen hx_g4 0; have y1 := blk_frozen hx_g4 1; have y2 := blk_frozen hx_g4 2; have y3 := blk_frozen hx_g4 3; have y4 := blk_frozen hx_g4 4; have y5 := blk_frozen hx_g4 5; clear hx_g4 hg_g4 hb_g4))
  have HK : Hid (MI #[.int .i64 0, .string ⟨#[]⟩, .string ⟨#[]⟩, .slice none 0 0, .slice none 0 0, .string ⟨#[]⟩] w ((((((w3.setCell ⟨g4, 0, none⟩ (.int .i64 0)).setCell ⟨g4, 1, none⟩ (.string ⟨#[104, 116, 116, 112, 58, 47, 47, 119, 119, 119, 46, 119, 51, 46, 111, 114, 103, 47, 50, 48, 48, 53, 47, 65, 116, 111, 109]⟩)).setCell ⟨g4, 2, none⟩ (.string name)).setCell ⟨g4, 3, none⟩ (.slice none 0 0)).setCell ⟨g4, 4, none⟩ (.slice none 0 0)).setCell ⟨g4, 5, none⟩ (.string ⟨#[]⟩)) g2 g4 1 ⟨0, atomB, name, [], [], ⟨#[]⟩⟩ (.slice none 0 0) (.slice none 0 0)) := Lib.hid (MI.start (x := ⟨0, atomB, name, [], [], ⟨#[]⟩⟩) (m := 1) H2.out.2.2 H2.out.1 (Below.refl _ _) (Kd.N_nil _ _ _ _ _) (Kd.N_nil _ _ _ _ _) ⟨(by decide : atomB.size ≤ 100), HN.out, (by decide : (⟨#[]⟩ : ByteArray).size ≤ 100), Nat.zero_le _, Nat.zero_le _, (fun a ha => by cases ha), (fun y hy => by cases hy)⟩ HK0.out.1 HK0.out.2.1 HK0.out.2.2)
  have HG : Hid (w.heap.size ≤ g2) := by rw [H2.out.2.1]; exact Nat.le_refl _
  clear H2 HK0 z0 z1 z2 z3 z4 z5 y0 y1 y2 y3 y4 y5
  generalize ((((((w3.setCell ⟨g4, 0, none⟩ (.int .i64 0)).setCell ⟨g4, 1, none⟩ (.string ⟨#[104, 116, 116, 112, 58, 47, 47, 119, 119, 119, 46, 119, 51, 46, 111, 114, 103, 47, 50, 48, 48, 53, 47, 65, 116, 111, 109]⟩)).setCell ⟨g4, 2, none⟩ (.string name)).setCell ⟨g4, 3, none⟩ (.slice none 0 0)).setCell ⟨g4, 4, none⟩ (.slice none 0 0)).setCell ⟨g4, 5, none⟩ (.string ⟨#[]⟩)) = w4 at HK ⊢
  obtain ⟨x, hx⟩ : ∃ x : S25, x = ⟨0, atomB, name, [], [], ⟨#[]⟩⟩ := ⟨_, rfl⟩
  rw [← hx] at HK
  have HX := Lib.hid hx
  clear hx
  
  cases q
  case true =>
    obtain ⟨z0, z1, z2, z3, z4, z5⟩ := HK.out.cells
    obtain ⟨y0, y1, y2, y3, y4, y5⟩ := box6 HK.out.b2
    have f0 := blk_frozen HK.out.b2 0
    have f1 := blk_frozen HK.out.b2 1
    have f2 := blk_frozen HK.out.b2 2
    have f3 := blk_frozen HK.out.b2 3
    have f4 := blk_frozen HK.out.b2 4
    have f5 := blk_frozen HK.out.b2 5
    go_wp2_with fail
    refine bodyPost_ret (results_cell_row rfl _ _ g2 25 _ (0, 0) _ rfl HK.out.blk2 Tryz.underlying25 rfl (by kernel_rfl)) rfl ?_
    exact MadeEl.of HX.out (by unfold elK; rw [if_pos (beq_iff_eq.mp HQ.out)]) HK.out HG.out
  case false =>
    go_upto_region 4 with (first | ((with_reducible refine gate_dst (N := 12) rfl ?_); refine MI.nlit1 (xe := ⟨1, ⟨#[]⟩, ⟨#[]⟩, [], [], text⟩) HK.out (madeE_bare _ _ _ _ _ _).fk HK.out.fresh ?hg (N := 12) ?hd ?hr (sm_leaf _ ⟨#[]⟩ ⟨#[]⟩ text (by decide) (by decide) HT.out) (m' := 1) (by decide) (by decide) ?_; (case hg => rfl); (case hd => rfl); (case hr => first | (go_simp; done) | (go_simp; rfl)); intro A12 n12 c12 w5 hc4 hf4 hk; clear HK; have HK := Lib.hid hk; clear hk))
    generalize (w5.setCell ⟨g4, 4, none⟩ (.slice A12 n12 c12)) = w6 at HK ⊢
    clear hc4 hf4
    obtain ⟨x', hx'⟩ : ∃ x' : S25, x' = ⟨x.f0, x.f1, x.f2, x.f3, [⟨1, ⟨#[]⟩, ⟨#[]⟩, [], [], text⟩], x.f5⟩ := ⟨_, rfl⟩
    rw [← hx'] at HK
    have HX' : Hid (x' = ⟨0, atomB, name, [], [⟨1, ⟨#[]⟩, ⟨#[]⟩, [], [], text⟩], ⟨#[]⟩⟩) := by rw [hx', HX.out]; exact rfl
    clear hx'
    obtain ⟨z0, z1, z2, z3, z4, z5⟩ := HK.out.cells
    obtain ⟨y0, y1, y2, y3, y4, y5⟩ := box6 HK.out.b2
    have f0 := blk_frozen HK.out.b2 0
    have f1 := blk_frozen HK.out.b2 1
    have f2 := blk_frozen HK.out.b2 2
    have f3 := blk_frozen HK.out.b2 3
    have f4 := blk_frozen HK.out.b2 4
    have f5 := blk_frozen HK.out.b2 5
    go_wp2_with fail
    refine bodyPost_ret (results_cell_row rfl _ _ g2 25 _ (0, 0) _ rfl HK.out.blk2 Tryz.underlying25 rfl (by kernel_rfl)) rfl ?_
    exact MadeEl.of HX'.out (by unfold elK; rw [if_neg (by intro h; have := HQ.out; rw [h] at this; cases this)]) HK.out HG.out
/-- An element of Atom, of no great text. -/
theorem el_c (name text : ByteArray) (W : World) (hn : name.size ≤ 100) (ht : text.size ≤ 100) : Calls Tryz.prog 16 #[.string name, .string text] W fun e w' => ∃ x v3 v4, e = .returned (.agg #[.int .i64 x.f0, .string x.f1, .string x.f2, v3, v4, .string x.f5]) ∧ MadeE W.heap.size w' x v3 v4 ∧ KSm 1 x ∧ Below W.heap.size W w' := by
  refine (el_e name text W hn (by omega)).mono ?_
  rintro e w' ⟨v4, rfl, h4, hb⟩
  refine ⟨⟨0, atomB, name, [], elK text, ⟨#[]⟩⟩, _, v4, rfl, ⟨Kd.N_nil _ _ _ _ _, Kd.N_mono h4 (fun k hk => ⟨hk, by simp [Value.ownBlock]⟩)⟩, ⟨(by decide : atomB.size ≤ 100), hn, (by decide : (⟨#[]⟩ : ByteArray).size ≤ 100), Nat.zero_le _, elK_len text, (fun a ha => by cases ha), elK_sm text (by omega)⟩, hb⟩
theorem MI.fk {C2 : Array Value} {w W : World} {g2 g4 m : Nat} {x : S25} {v3 v4 : Value} (h : MI C2 w W g2 g4 m x v3 v4) : Kd.FK k25 W (fun k => w.heap.size ≤ k) x [.int .i64 x.f0, .string x.f1, .string x.f2, v3, v4, .string x.f5] := by
  obtain ⟨A3, n3, c3, rfl⟩ := N_any h.r3
  obtain ⟨A4, n4, c4, rfl⟩ := N_any h.r4
  obtain ⟨l3, e3, f3⟩ := Kd.N_reads' h.r3
  obtain ⟨l4, e4, f4⟩ := Kd.N_reads' h.r4
  have k3 := Kd.N_F h.r3
  have k4 := Kd.N_F h.r4
  subst l3
  subst l4
  exact k25_mkF _ _ x e3 (Kd.F_mono k3 (fun _ hk => hk.1)) e4 (Kd.F_mono k4 (fun _ hk => hk.1.1))
theorem elx_fk {w : World} {name text : ByteArray} {v4 : Value} {lo : Nat} (h4 : Kd.N k25 25 w lo (fun k => lo ≤ k) v4 (elK text)) : Kd.FK k25 w (fun k => lo ≤ k) ⟨0, atomB, name, [], elK text, ⟨#[]⟩⟩ [.int .i64 0, .string atomB, .string name, .slice none 0 0, v4, .string ⟨#[]⟩] :=
  MadeE.fk (x := ⟨0, atomB, name, [], elK text, ⟨#[]⟩⟩) ⟨Kd.N_nil _ _ _ _ _, Kd.N_mono h4 (fun k hk => ⟨hk, by simp [Value.ownBlock]⟩)⟩
theorem elx_sm (name text : ByteArray) (hn : name.size ≤ 3000) (ht : text.size ≤ 3000) : Sm ⟨0, atomB, name, [], elK text, ⟨#[]⟩⟩ :=
  Sm.mk _ (by decide : atomB.size ≤ 3000) hn (by decide : (⟨#[]⟩ : ByteArray).size ≤ 3000) (Nat.zero_le _) (Nat.le_trans (elK_len text) (by decide)) (fun a ha => by cases ha) (elK_sm text ht)
theorem MI.lit2_step {ops : Array Oper} {o : Oper} {a' : Act} {Q : Exit → Act → World → Prop} {Kc : Act → World → Prop} {C2 Cn : Array Value} {w w4 W : World} {g2 gn ga m ma : Nat} {xn xa xt : S25} {vn va3 va4 vt3 vt4 : Value} {N : Tmp} {okp : Nat → Prop}
    (hn : MI C2 w w4 g2 gn m xn (.slice none 0 0) vn) (ha : MI Cn w4 W gn ga ma xa va3 va4) (hE : Kd.FK k25 W okp xt [.int .i64 xt.f0, .string xt.f1, .string xt.f2, vt3, vt4, .string xt.f5]) (hok : ∀ k, okp k → w4.heap.size ≤ k) (hw : Region.wanted o (yielded ops a'.tmps) = true) (hd : o.dst = some N)
    (hrun : (execOp a'.eval o).run Tryz.prog W = .ok (.value (.slice (some ⟨W.heap.size, 0, none⟩) 2 2)) (W.alloc (.cells #[.int .i64 xa.f0, .string xa.f1, .string xa.f2, va3, va4, .string xa.f5, .int .i64 xt.f0, .string xt.f1, .string xt.f2, vt3, vt4, .string xt.f5] 25)))
    (hsa : Sm xa) (hst : Sm xt) (hm : m ≤ 2)
    (K : ∀ A n c' w1, w1.cell? ⟨gn, 4, none⟩ = some vn → w1.frozen? ⟨gn, 4, none⟩ = false → Below W.heap.size W w1 → MI C2 w (w1.setCell ⟨gn, 4, none⟩ (.slice A n c')) g2 gn 2 ⟨xn.f0, xn.f1, xn.f2, xn.f3, [xa, xt], xn.f5⟩ (.slice none 0 0) (.slice A n c') → Kc (a'.put o.dst (.slice A n c')) w1) : if Region.wanted o (yielded ops a'.tmps) = true then Oper.wp Tryz.prog o a' W Kc Q else Kc (a'.put o.dst undef) W := by
  have hW := hn.step ha.bw
  exact Kd.N_lit_step k25 (w0 := w) w.heap.size 25 hw hd (xs := [xa, xt]) (inner := [.int .i64 xa.f0, .string xa.f1, .string xa.f2, va3, va4, .string xa.f5, .int .i64 xt.f0, .string xt.f1, .string xt.f2, vt3, vt4, .string xt.f5]) (ok := fun k => (w.heap.size ≤ k ∧ k ≠ g2 ∧ k ≠ gn) ∧ some k ≠ (Value.slice none 0 0).ownBlock) (okp := fun k => w4.heap.size ≤ k) hrun (Reps.c6 ha.fk (Reps.c6 (Kd.FK_mono hE hok) (Reps.none _ _))) (fun k hk => (hn.fresh k hk).1) (hW.fresh _ (Nat.le_refl _)).1 hW.bw hW.bw.size (by simp)
    (fun v1 w1 hnn hb hg _ => by
      obtain ⟨A, n, c', rfl⟩ := N_any hnn
      have hp4 := MI.put4 hW hnn hb (fun k hk hne => hg.block k hk (by simp)) (hW.sm.put4 _ 2 hm (Nat.le_refl _) (fun z hz => by rcases List.mem_cons.1 hz with rfl | hz; exact hsa; rw [List.mem_singleton.1 hz]; exact hst))
      exact K A n c' w1 hp4.1.1 hp4.1.2 (grown_belowK hb hW.bw hg) hp4.2)
def PlainP (t : ByteArray) (w : World) (e : Ending) (w' : World) : Prop := ∃ v4, e = .returned (.agg #[.int .i64 0, .string atomB, .string entryB, .slice none 0 0, v4, .string ⟨#[]⟩]) ∧ Kd.N k25 25 w' w.heap.size (fun k => w.heap.size ≤ k) v4 (plainN t).f4 ∧ Below w.heap.size w w'
theorem PlainP.of {t : ByteArray} {C2 : Array Value} {w W : World} {g2 g4 m : Nat} {x : S25} {v4 : Value} (hx : x = plainN t) (h : MI C2 w W g2 g4 m x (.slice none 0 0) v4) (hge : w.heap.size ≤ g2) :
    PlainP t w (.returned (.agg #[.int .i64 x.f0, .string x.f1, .string x.f2, .slice none 0 0, v4, .string x.f5])) ((((((W.setCell ⟨g2, 0, none⟩ (.int .i64 x.f0)).setCell ⟨g2, 1, none⟩ (.string x.f1)).setCell ⟨g2, 2, none⟩ (.string x.f2)).setCell ⟨g2, 3, none⟩ (.slice none 0 0)).setCell ⟨g2, 4, none⟩ v4).setCell ⟨g2, 5, none⟩ (.string x.f5)) := by
  obtain ⟨h1, h2⟩ := h.doneN hge
  refine ⟨v4, by rw [hx]; rfl, ?_, h2⟩
  rw [← hx]
  exact h1
set_option maxHeartbeats 2000000 in
theorem plain_e (t : ByteArray) (w : World) (ht : t.size ≤ 3000) (hne : t.toList ≠ []) : Calls Tryz.prog 15 #[.string t] w (PlainP t w) := by
  have HT := Lib.hid ht
  have HNE := Lib.hid hne
  clear ht hne
  go_enter Tryz.func15, Tryz.ntmps15
  go_wp2_with (first | ((with_reducible refine gate_dst (N := 2) rfl ?_); refine box_event ?hg (N := 2) ?hd (cs := #[.int .i64 0, .string ⟨#[]⟩, .string ⟨#[]⟩, .slice none 0 0, .slice none 0 0, .string ⟨#[]⟩]) (t := 25) ?hr ?_; (case hd => rfl); (case hg => rfl); (case hr => first | (go_simp; done) | (go_simp; rfl)); intro g2 hg_g2 w1 hx_g2 hb_g2; have H2 := Lib.hid (And.intro hx_g2 (And.intro hg_g2 hb_g2)); clear hx_g2 hg_g2 hb_g2))
  with_reducible refine (el_e _ _ _ (by decide) (by decide)).mono ?_
  rintro e w2 ⟨vn, rfl, hn4, hb2⟩
  obtain ⟨An, nn, cn, rfl⟩ := N_any hn4
  have HN := Lib.hid (And.intro hn4 hb2)
  clear hn4 hb2
  go_wp2_with (first | ((with_reducible refine gate_dst (N := 3) rfl ?_); refine box_event ?hg (N := 3) ?hd (cs := #[.int .i64 0, .string ⟨#[]⟩, .string ⟨#[]⟩, .slice none 0 0, .slice none 0 0, .string ⟨#[]⟩]) (t := 25) ?hr ?_; (case hd => rfl); (case hg => rfl); (case hr => first | (go_simp; done) | (go_simp; rfl)); intro gn hg_gn w3 hx_gn hb_gn; have HK0 := Lib.hid (And.intro hx_gn (And.intro hg_gn hb_gn)); obtain ⟨z0, z1, z2, z3, z4, z5⟩ := box6 hx_gn; have y0 := blk_frozen hx_gn 0; have y1 := blk_frozen hx_gn 1; have y2 := blk_frozen hx_gn 2; have y3 := blk_frozen hx_gn 3; have y4 := blk_frozen hx_gn 4; have y5 := blk_frozen hx_gn 5; clear hx_gn hg_gn hb_gn))
  have HKN : Hid (MI #[.int .i64 0, .string ⟨#[]⟩, .string ⟨#[]⟩, .slice none 0 0, .slice none 0 0, .string ⟨#[]⟩] w ((((((w3.setCell ⟨gn, 0, none⟩ (.int .i64 0)).setCell ⟨gn, 1, none⟩ (.string atomB)).setCell ⟨gn, 2, none⟩ (.string ⟨#[101, 110, 116, 114, 121]⟩)).setCell ⟨gn, 3, none⟩ (.slice none 0 0)).setCell ⟨gn, 4, none⟩ (.slice An nn cn)).setCell ⟨gn, 5, none⟩ (.string ⟨#[]⟩)) g2 gn 1 ⟨0, atomB, entryB, [], elK ⟨#[]⟩, ⟨#[]⟩⟩ (.slice none 0 0) (.slice An nn cn)) := Lib.hid (MI.start (x := ⟨0, atomB, entryB, [], elK ⟨#[]⟩, ⟨#[]⟩⟩) (m := 1) H2.out.2.2 H2.out.1 HN.out.2 (Kd.N_nil _ _ _ _ _) (Kd.N_mono HN.out.1 (fun k hk => ⟨hk, by simp [Value.ownBlock]⟩)) ⟨(by decide : atomB.size ≤ 100), (by decide : entryB.size ≤ 100), (by decide : (⟨#[]⟩ : ByteArray).size ≤ 100), Nat.zero_le _, elK_len _, (fun a ha => by cases ha), elK_sm _ (by decide)⟩ HK0.out.1 HK0.out.2.1 HK0.out.2.2)
  have HG : Hid (w.heap.size ≤ g2) := by rw [H2.out.2.1]; exact Nat.le_refl _
  clear H2 HN HK0 z0 z1 z2 z3 z4 z5 y0 y1 y2 y3 y4 y5
  generalize ((((((w3.setCell ⟨gn, 0, none⟩ (.int .i64 0)).setCell ⟨gn, 1, none⟩ (.string atomB)).setCell ⟨gn, 2, none⟩ (.string ⟨#[101, 110, 116, 114, 121]⟩)).setCell ⟨gn, 3, none⟩ (.slice none 0 0)).setCell ⟨gn, 4, none⟩ (.slice An nn cn)).setCell ⟨gn, 5, none⟩ (.string ⟨#[]⟩)) = w4 at HKN ⊢
  obtain ⟨xn, hxn⟩ : ∃ x : S25, x = ⟨0, atomB, entryB, [], elK ⟨#[]⟩, ⟨#[]⟩⟩ := ⟨_, rfl⟩
  rw [← hxn] at HKN
  have HXN := Lib.hid hxn
  clear hxn
  with_reducible refine (el_e _ _ _ (by decide) (by decide)).mono ?_
  rintro e w5 ⟨va, rfl, ha4, hb5⟩
  obtain ⟨Aa, na, ca, rfl⟩ := N_any ha4
  have HA := Lib.hid (And.intro ha4 hb5)
  clear ha4 hb5
  go_wp2_with (first | ((with_reducible refine gate_dst (N := 4) rfl ?_); refine box_event ?hg (N := 4) ?hd (cs := #[.int .i64 0, .string ⟨#[]⟩, .string ⟨#[]⟩, .slice none 0 0, .slice none 0 0, .string ⟨#[]⟩]) (t := 25) ?hr ?_; (case hd => rfl); (case hg => rfl); (case hr => first | (go_simp; done) | (go_simp; rfl)); intro ga hg_ga w6 hx_ga hb_ga; have HK0 := Lib.hid (And.intro hx_ga (And.intro hg_ga hb_ga)); obtain ⟨z0, z1, z2, z3, z4, z5⟩ := box6 hx_ga; have y0 := blk_frozen hx_ga 0; have y1 := blk_frozen hx_ga 1; have y2 := blk_frozen hx_ga 2; have y3 := blk_frozen hx_ga 3; have y4 := blk_frozen hx_ga 4; have y5 := blk_frozen hx_ga 5; clear hx_ga hg_ga hb_ga))
  have HK : Hid (MI _ w4 ((((((w6.setCell ⟨ga, 0, none⟩ (.int .i64 0)).setCell ⟨ga, 1, none⟩ (.string atomB)).setCell ⟨ga, 2, none⟩ (.string ⟨#[97, 117, 116, 104, 111, 114]⟩)).setCell ⟨ga, 3, none⟩ (.slice none 0 0)).setCell ⟨ga, 4, none⟩ (.slice Aa na ca)).setCell ⟨ga, 5, none⟩ (.string ⟨#[]⟩)) gn ga 1 ⟨0, atomB, ⟨#[97, 117, 116, 104, 111, 114]⟩, [], elK ⟨#[]⟩, ⟨#[]⟩⟩ (.slice none 0 0) (.slice Aa na ca)) := Lib.hid (MI.start (x := ⟨0, atomB, ⟨#[97, 117, 116, 104, 111, 114]⟩, [], elK ⟨#[]⟩, ⟨#[]⟩⟩) (m := 1) (Below.refl _ _) HKN.out.b4 HA.out.2 (Kd.N_nil _ _ _ _ _) (Kd.N_mono HA.out.1 (fun k hk => ⟨hk, by simp [Value.ownBlock]⟩)) ⟨(by decide : atomB.size ≤ 100), (by decide : (⟨#[97, 117, 116, 104, 111, 114]⟩ : ByteArray).size ≤ 100), (by decide : (⟨#[]⟩ : ByteArray).size ≤ 100), Nat.zero_le _, elK_len _, (fun a ha => by cases ha), elK_sm _ (by decide)⟩ HK0.out.1 HK0.out.2.1 HK0.out.2.2)
  clear HA HK0 z0 z1 z2 z3 z4 z5 y0 y1 y2 y3 y4 y5
  generalize ((((((w6.setCell ⟨ga, 0, none⟩ (.int .i64 0)).setCell ⟨ga, 1, none⟩ (.string atomB)).setCell ⟨ga, 2, none⟩ (.string ⟨#[97, 117, 116, 104, 111, 114]⟩)).setCell ⟨ga, 3, none⟩ (.slice none 0 0)).setCell ⟨ga, 4, none⟩ (.slice Aa na ca)).setCell ⟨ga, 5, none⟩ (.string ⟨#[]⟩)) = w7 at HK ⊢
  obtain ⟨xa, hxa⟩ : ∃ x : S25, x = ⟨0, atomB, ⟨#[97, 117, 116, 104, 111, 114]⟩, [], elK ⟨#[]⟩, ⟨#[]⟩⟩ := ⟨_, rfl⟩
  rw [← hxa] at HK
  have HXA := Lib.hid hxa
  clear hxa
  with_reducible refine (el_e _ _ _ (by decide) (by decide)).mono ?_
  rintro e w8 ⟨vm, rfl, hm4, hb8⟩
  obtain ⟨Am, nm, cm, rfl⟩ := N_any hm4
  have HM := Lib.hid (elx_fk (name := nameB) hm4)
  have HFR := Lib.hid HK.out.fresh
  have HK := Lib.hid (HK.out.step hb8)
  clear hm4 hb8
  go_upto_region 4 with (first | ((with_reducible refine gate_dst (N := 8) rfl ?_); refine MI.nlit1 (xe := ⟨0, atomB, nameB, [], elK ⟨#[65]⟩, ⟨#[]⟩⟩) HK.out HM.out HFR.out ?hg (N := 8) ?hd ?hr (elx_sm _ _ (by decide) (by decide)) (m' := 1) (by decide) (by decide) ?_; (case hg => rfl); (case hd => rfl); (case hr => first | (go_simp; done) | (go_simp; rfl)); intro A8 n8 c8 w9 hc4 hf4 hk; clear HK; have HK := Lib.hid hk; clear hk))
  generalize (w9.setCell ⟨ga, 4, none⟩ (.slice A8 n8 c8)) = w10 at HK ⊢
  clear hc4 hf4 HM HFR
  obtain ⟨xb, hxb⟩ : ∃ x : S25, x = ⟨xa.f0, xa.f1, xa.f2, xa.f3, [⟨0, atomB, nameB, [], elK ⟨#[65]⟩, ⟨#[]⟩⟩], xa.f5⟩ := ⟨_, rfl⟩
  rw [← hxb] at HK
  have HXB : Hid (xb = ⟨0, atomB, ⟨#[97, 117, 116, 104, 111, 114]⟩, [], [⟨0, atomB, nameB, [], elK ⟨#[65]⟩, ⟨#[]⟩⟩], ⟨#[]⟩⟩) := by rw [hxb, HXA.out]; exact rfl
  clear hxb HXA
  go_wp2_with fail
  have HK := Lib.hid (HK.out.step (below_drew (Below.refl _ _)))
  refine start_ (n := 6) (S := fun w' => w'.cell? ⟨ga, 0, none⟩ = some (.int .i64 xb.f0) ∧ w'.cell? ⟨ga, 1, none⟩ = some (.string xb.f1) ∧ w'.cell? ⟨ga, 2, none⟩ = some (.string xb.f2) ∧ w'.cell? ⟨ga, 3, none⟩ = some (.slice none 0 0) ∧ w'.cell? ⟨ga, 4, none⟩ = some (.slice A8 n8 c8) ∧ w'.cell? ⟨ga, 5, none⟩ = some (.string xb.f5)) (ds := [5]) #[false, false, false, false, false, false] (by kernel_rfl) rfl rfl ⟨HK.out.cells.1, HK.out.cells.2.1, HK.out.cells.2.2.1, HK.out.cells.2.2.2.1, HK.out.cells.2.2.2.2.1, HK.out.cells.2.2.2.2.2⟩ (fun hHeld => ?_)
  generalize hwd_ : World.drew _ = w11 at HK hHeld ⊢
  clear hwd_
  refine pure_ (i := 1) (N := some 11) (v := ?_) (a' := ?_) #[false, true, false, false, false, false] rfl rfl (by kernel_rfl) (fun _ _ _ h => h) (Or.inl ⟨by rfl, ?_⟩) ?_ ?_
  rotate_left
  · intro w'
    go_simp
    with_reducible rfl
  rotate_left
  · simp only [Act.put, List.setIfInBounds_toArray, List.set_cons_zero, List.set_cons_succ, i64_w, i32_w]
    rfl
  refine take_ (i := 0) (N := some 10) (v := ?_) (a' := ?_) #[true, true, false, false, false, false] rfl rfl (by kernel_rfl) (fun _ _ _ h => h) (Or.inl ⟨by rfl, ?_⟩) hHeld ?_ ?_
  rotate_left
  · rintro w' ⟨s0, s1, s2, s3, s4, s5⟩
    go_simp
    with_reducible rfl
  rotate_left
  · simp only [Act.put, List.setIfInBounds_toArray, List.set_cons_zero, List.set_cons_succ, i64_w, i32_w]
    rfl
  refine one_ (i := 2) (N := some 12) #[true, true, true, false, false, false] rfl rfl (by kernel_rfl) (by decide) (fun K hK => ?_)
  refine goes_ Tryz.func16 (by kernel_rfl) rfl #[.string ⟨#[116, 105, 116, 108, 101]⟩, .string t] (by rfl) rfl rfl (by (try simp only [List.map_toArray, List.map_cons, List.map_nil]); first | done | rfl) ?_
  with_reducible refine (el_e ⟨#[116, 105, 116, 108, 101]⟩ t _ (by decide) HT.out).mono ?_
  rintro e w12 ⟨vt, rfl, ht4, hb⟩
  refine ⟨_, rfl, ?_⟩
  have HFT := Lib.hid (elx_fk (name := ⟨#[116, 105, 116, 108, 101]⟩) ht4)
  have HLO := Lib.hid HK.out.bw.size
  have HK := Lib.hid (HK.out.step hb)
  clear ht4 hb
  refine hK.out _ _ ⟨HK.out.cells.1, HK.out.cells.2.1, HK.out.cells.2.2.1, HK.out.cells.2.2.2.1, HK.out.cells.2.2.2.2.1, HK.out.cells.2.2.2.2.2⟩ (fun hHeld => ?_)
  clear hK K
  refine norm_ (a' := ?_) ?_ ?_
  rotate_left
  · show Act.put _ (some 12) _ = _
    simp only [Act.put, List.setIfInBounds_toArray, List.set_cons_zero, List.set_cons_succ, i64_w, i32_w]
    rfl
  refine one_ (i := 3) (N := some 13) #[true, true, true, true, false, false] rfl rfl (by kernel_rfl) (by decide) (fun K hK => ?_)
  refine MI.lit2_step (N := 13) (xt := ⟨0, atomB, ⟨#[116, 105, 116, 108, 101]⟩, [], elK t, ⟨#[]⟩⟩) HKN.out HK.out HFT.out (fun k hk => Nat.le_trans HLO.out hk) ?hw ?hd ?hr (by rw [HXB.out]; exact sm_el _ _ (by decide) (by decide) _ (elx_sm nameB _ (by decide) (by decide))) (elx_sm _ t (by decide) HT.out) (by decide) ?_
  (case hw => rfl)
  (case hd => rfl)
  (case hr => first | (go_simp; done) | (go_simp; rfl))
  intro A13 n13 c13 w13 hc4 hf4 hbw hk
  have HK9 := Lib.hid hk
  have HK := Lib.hid (HK.out.step hbw)
  clear hk hbw
  refine hK.out _ _ ⟨HK.out.cells.1, HK.out.cells.2.1, HK.out.cells.2.2.1, HK.out.cells.2.2.2.1, HK.out.cells.2.2.2.2.1, HK.out.cells.2.2.2.2.2⟩ (fun hHeld => ?_)
  clear hK K
  refine norm_ (a' := ?_) ?_ ?_
  rotate_left
  · show Act.put _ (some 13) _ = _
    simp only [Act.put, List.setIfInBounds_toArray, List.set_cons_zero, List.set_cons_succ, i64_w, i32_w]
    rfl
  refine pure_ (i := 4) (N := some 14) (v := ?_) (a' := ?_) #[true, true, true, true, true, false] rfl rfl (by kernel_rfl) (fun _ _ _ h => h) (Or.inl ⟨by rfl, ?_⟩) ?_ ?_
  rotate_left
  · intro w'
    go_simp
    with_reducible rfl
  rotate_left
  · simp only [Act.put, List.setIfInBounds_toArray, List.set_cons_zero, List.set_cons_succ, i64_w, i32_w]
    rfl
  refine last_ (i := 5) (N := none) #[true, true, true, true, true, true] rfl rfl (by kernel_rfl) (by decide) (fun K hK => ?_)
  refine skip_ (w1 := ?_) (by rfl) rfl ?_ ?_
  rotate_left
  · go_simp
    rfl
  refine hK.out _ _ ?_
  clear hK K
  refine done_ (by kernel_rfl) ?_
  clear HK hHeld hc4 hf4 HFT HLO HKN
  have HK := HK9
  clear HK9
  generalize (w13.setCell ⟨gn, 4, none⟩ (.slice A13 n13 c13)) = w14 at HK ⊢
  obtain ⟨xf, hxf⟩ : ∃ x : S25, x = ⟨xn.f0, xn.f1, xn.f2, xn.f3, [xb, ⟨0, atomB, ⟨#[116, 105, 116, 108, 101]⟩, [], elK t, ⟨#[]⟩⟩], xn.f5⟩ := ⟨_, rfl⟩
  rw [← hxf] at HK
  have HXF : Hid (xf = plainN t) := by
    have e1 : elK ⟨#[65]⟩ = [⟨1, ⟨#[]⟩, ⟨#[]⟩, [], [], ⟨#[65]⟩⟩] := by unfold elK; rw [if_neg (by rw [ByteArray.toList_eq]; decide)]
    have e2 : elK t = [⟨1, ⟨#[]⟩, ⟨#[]⟩, [], [], t⟩] := by unfold elK; rw [if_neg HNE.out]
    rw [hxf, HXN.out, HXB.out, e1, e2]
    exact rfl
  clear hxf
  obtain ⟨z0, z1, z2, z3, z4, z5⟩ := HK.out.cells
  obtain ⟨y0, y1, y2, y3, y4, y5⟩ := box6 HK.out.b2
  have f0 := blk_frozen HK.out.b2 0
  have f1 := blk_frozen HK.out.b2 1
  have f2 := blk_frozen HK.out.b2 2
  have f3 := blk_frozen HK.out.b2 3
  have f4 := blk_frozen HK.out.b2 4
  have f5 := blk_frozen HK.out.b2 5
  go_wp2_with fail
  refine bodyPost_ret (results_cell_row rfl _ _ g2 25 _ (0, 0) _ rfl HK.out.blk2 Tryz.underlying25 rfl (by kernel_rfl)) rfl ?_
  exact PlainP.of HXF.out HK.out HG.out
end Go.Proofs.YtcplaafmelcndaaGreatDoor.At
