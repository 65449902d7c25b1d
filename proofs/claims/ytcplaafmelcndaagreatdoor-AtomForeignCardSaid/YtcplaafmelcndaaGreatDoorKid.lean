/- kid, a kid of numbers, by hand: some node none of whose parts is great. Printed by wip/A15/genkid.py. -/
import Derived.Test.YtcplaafmelcndaaGreatDoorMis
set_option linter.unusedVariables false
set_option linter.unusedSimpArgs false
set_option maxRecDepth 20000
namespace Go.Proofs.YtcplaafmelcndaaGreatDoor.At
open Go.RowKit Go.Lib Go.Proofs.YtcplaafmelcndaaGreatDoor.Pr Go.Proofs.YtcplaafmelcndaaGreatDoorW.PrintWords Go.Proofs.YtcplaafmelcndaaGreatDoorW.PrintLast Go.Proofs.YtcplaafmelcndaaGreatDoorW.PrintMore
/-- The node has got its block. -/
theorem KI.start {w w6 w7 w8 : World} {g1 g2 g4 : Nat} {a b c : Int} {x : S25} {v3 v4 : Value} (hb : Below w.heap.size w w7) (b1 : w7.heap[g1]? = some (.cells #[.int .u8 a, .int .u8 b, .int .u8 c] 36 (0, 0))) (b2 : w7.heap[g2]? = some (.cells #[.int .i64 0, .string ⟨#[]⟩, .string ⟨#[]⟩, .slice none 0 0, .slice none 0 0, .string ⟨#[]⟩] 25 (0, 0))) (o1 : w.heap.size ≤ g1) (o2 : g1 < g2) (o4 : g2 < w6.heap.size) (h7 : w6.heap.size ≤ w7.heap.size) (hm : MadeE w6.heap.size w7 x v3 v4) (hs : KSm 1 x) {u0 u1 u2 u3 u4 u5 : Value} (b4 : w8.heap[g4]? = some (.cells #[u0, u1, u2, u3, u4, u5] 25 (0, 0))) (hg : g4 = w7.heap.size) (hb8 : Below w7.heap.size w7 w8) :
    KI w ((((((w8.setCell ⟨g4, 0, none⟩ (.int .i64 x.f0)).setCell ⟨g4, 1, none⟩ (.string x.f1)).setCell ⟨g4, 2, none⟩ (.string x.f2)).setCell ⟨g4, 3, none⟩ v3).setCell ⟨g4, 4, none⟩ v4).setCell ⟨g4, 5, none⟩ (.string x.f5)) g1 g2 g4 a b c 1 x v3 v4 := by
  have hge : w.heap.size ≤ g4 := by omega
  have q1 := blk_below b1 hb8
  have q2 := blk_below b2 hb8
  have n1 : g1 ≠ g4 := by omega
  have n2 : g2 ≠ g4 := by omega
  have r3 : Kd.N k41 41 w8 w.heap.size (fun k => w.heap.size ≤ k ∧ k ≠ g1 ∧ k ≠ g2 ∧ k ≠ g4) v3 x.f3 := Kd.N_below (Kd.N_lower (Kd.N_mono (Kd.N_bound hm.1) (fun k hk => by obtain ⟨h1, h2⟩ := hk; exact ⟨by omega, by omega, by omega, by omega⟩)) (by omega)) hb8
  have r4 : Kd.N k25 25 w8 w.heap.size (fun k => (w.heap.size ≤ k ∧ k ≠ g1 ∧ k ≠ g2 ∧ k ≠ g4) ∧ some k ≠ v3.ownBlock) v4 x.f4 := Kd.N_below (Kd.N_lower (Kd.N_mono (Kd.N_bound hm.2) (fun k hk => by obtain ⟨⟨h1, h3⟩, h2⟩ := hk; exact ⟨⟨by omega, by omega, by omega, by omega⟩, h3⟩)) (by omega)) hb8
  refine ⟨?_, ?_, ?_, ?_, o1, o2, by omega, ?_, ?_, hs⟩
  · exact below_set (below_set (below_set (below_set (below_set (below_set (hb.trans (hb8.mono hb.size)) hge) hge) hge) hge) hge) hge
  · exact blk_far (blk_far (blk_far (blk_far (blk_far (blk_far q1 (p := ⟨g4, 0, none⟩) n1 _) (p := ⟨g4, 1, none⟩) n1 _) (p := ⟨g4, 2, none⟩) n1 _) (p := ⟨g4, 3, none⟩) n1 _) (p := ⟨g4, 4, none⟩) n1 _) (p := ⟨g4, 5, none⟩) n1 _
  · exact blk_far (blk_far (blk_far (blk_far (blk_far (blk_far q2 (p := ⟨g4, 0, none⟩) n2 _) (p := ⟨g4, 1, none⟩) n2 _) (p := ⟨g4, 2, none⟩) n2 _) (p := ⟨g4, 3, none⟩) n2 _) (p := ⟨g4, 4, none⟩) n2 _) (p := ⟨g4, 5, none⟩) n2 _
  · exact blk_put (blk_put (blk_put (blk_put (blk_put (blk_put b4 0 _ rfl) 1 _ rfl) 2 _ rfl) 3 _ rfl) 4 _ rfl) 5 _ rfl
  · exact Kd.N_far (p := ⟨g4, 5, none⟩) (Kd.N_far (p := ⟨g4, 4, none⟩) (Kd.N_far (p := ⟨g4, 3, none⟩) (Kd.N_far (p := ⟨g4, 2, none⟩) (Kd.N_far (p := ⟨g4, 1, none⟩) (Kd.N_far (p := ⟨g4, 0, none⟩) r3 (fun _ hk => hk.2.2.2) _) (fun _ hk => hk.2.2.2) _) (fun _ hk => hk.2.2.2) _) (fun _ hk => hk.2.2.2) _) (fun _ hk => hk.2.2.2) _) (fun _ hk => hk.2.2.2) _
  · exact Kd.N_far (p := ⟨g4, 5, none⟩) (Kd.N_far (p := ⟨g4, 4, none⟩) (Kd.N_far (p := ⟨g4, 3, none⟩) (Kd.N_far (p := ⟨g4, 2, none⟩) (Kd.N_far (p := ⟨g4, 1, none⟩) (Kd.N_far (p := ⟨g4, 0, none⟩) r4 (fun _ hk => hk.1.2.2.2) _) (fun _ hk => hk.1.2.2.2) _) (fun _ hk => hk.1.2.2.2) _) (fun _ hk => hk.1.2.2.2) _) (fun _ hk => hk.1.2.2.2) _) (fun _ hk => hk.1.2.2.2) _
/-- The end: the node is handed out through the result's block. -/
theorem KI.cells {w W : World} {g1 g2 g4 : Nat} {a b c : Int} {m : Nat} {x : S25} {v3 v4 : Value} (h : KI w W g1 g2 g4 a b c m x v3 v4) : W.cell? ⟨g4, 0, none⟩ = some (.int .i64 x.f0) ∧ W.cell? ⟨g4, 1, none⟩ = some (.string x.f1) ∧ W.cell? ⟨g4, 2, none⟩ = some (.string x.f2) ∧ W.cell? ⟨g4, 3, none⟩ = some v3 ∧ W.cell? ⟨g4, 4, none⟩ = some v4 ∧ W.cell? ⟨g4, 5, none⟩ = some (.string x.f5) := box6 h.b4
theorem KI.done {w W : World} {g1 g2 g4 : Nat} {a b c : Int} {m : Nat} {x : S25} {A3 A4 : Option Addr} {n3 c3 n4 c4 : Nat} (h : KI w W g1 g2 g4 a b c m x (.slice A3 n3 c3) (.slice A4 n4 c4)) :
    Kd.FK k25 ((((((W.setCell ⟨g2, 0, none⟩ (.int .i64 x.f0)).setCell ⟨g2, 1, none⟩ (.string x.f1)).setCell ⟨g2, 2, none⟩ (.string x.f2)).setCell ⟨g2, 3, none⟩ (.slice A3 n3 c3)).setCell ⟨g2, 4, none⟩ (.slice A4 n4 c4)).setCell ⟨g2, 5, none⟩ (.string x.f5)) (fun k => w.heap.size ≤ k) x [.int .i64 x.f0, .string x.f1, .string x.f2, .slice A3 n3 c3, .slice A4 n4 c4, .string x.f5] ∧ Below w.heap.size w ((((((W.setCell ⟨g2, 0, none⟩ (.int .i64 x.f0)).setCell ⟨g2, 1, none⟩ (.string x.f1)).setCell ⟨g2, 2, none⟩ (.string x.f2)).setCell ⟨g2, 3, none⟩ (.slice A3 n3 c3)).setCell ⟨g2, 4, none⟩ (.slice A4 n4 c4)).setCell ⟨g2, 5, none⟩ (.string x.f5)) := by
  have hge : w.heap.size ≤ g2 := by have := h.o1; have := h.o2; omega
  obtain ⟨l3, e3, f3⟩ := Kd.N_reads' h.r3
  obtain ⟨l4, e4, f4⟩ := Kd.N_reads' h.r4
  have k3 := Kd.N_far (p := ⟨g2, 5, none⟩) (Kd.N_far (p := ⟨g2, 4, none⟩) (Kd.N_far (p := ⟨g2, 3, none⟩) (Kd.N_far (p := ⟨g2, 2, none⟩) (Kd.N_far (p := ⟨g2, 1, none⟩) (Kd.N_far (p := ⟨g2, 0, none⟩) h.r3 (fun _ hk => hk.2.2.1) (.int .i64 x.f0)) (fun _ hk => hk.2.2.1) (.string x.f1)) (fun _ hk => hk.2.2.1) (.string x.f2)) (fun _ hk => hk.2.2.1) (.slice A3 n3 c3)) (fun _ hk => hk.2.2.1) (.slice A4 n4 c4)) (fun _ hk => hk.2.2.1) (.string x.f5)
  have k4 := Kd.N_far (p := ⟨g2, 5, none⟩) (Kd.N_far (p := ⟨g2, 4, none⟩) (Kd.N_far (p := ⟨g2, 3, none⟩) (Kd.N_far (p := ⟨g2, 2, none⟩) (Kd.N_far (p := ⟨g2, 1, none⟩) (Kd.N_far (p := ⟨g2, 0, none⟩) h.r4 (fun _ hk => hk.1.2.2.1) (.int .i64 x.f0)) (fun _ hk => hk.1.2.2.1) (.string x.f1)) (fun _ hk => hk.1.2.2.1) (.string x.f2)) (fun _ hk => hk.1.2.2.1) (.slice A3 n3 c3)) (fun _ hk => hk.1.2.2.1) (.slice A4 n4 c4)) (fun _ hk => hk.1.2.2.1) (.string x.f5)
  subst l3
  subst l4
  exact ⟨k25_mkF _ _ x e3 (Kd.F_mono (Kd.N_F k3) (fun _ hk => hk.1)) e4 (Kd.F_mono (Kd.N_F k4) (fun _ hk => hk.1.1)), below_set (below_set (below_set (below_set (below_set (below_set h.bw hge) hge) hge) hge) hge) hge⟩
section
variable {P : Program} {ops : Array Oper} {rest : List Oper} {o : Oper} {a' : Act} {Q : Exit → Act → World → Prop} {Kc : Act → World → Prop}
variable {w W : World} {g1 g2 g4 : Nat} {a b c : Int} {m : Nat} {x xe : S25} {v3 v4 va vb : Value} {lo : Nat} {N : Tmp} {ya : S41}
/-- What is new is none of the known. -/
def Fr (w : World) (g1 g2 g4 lo : Nat) (v3 v4 : Value) : Prop := ∀ k, lo ≤ k → ((w.heap.size ≤ k ∧ k ≠ g1 ∧ k ≠ g2 ∧ k ≠ g4) ∧ some k ≠ v3.ownBlock) ∧ some k ≠ v4.ownBlock
abbrev N4 (w W : World) (g1 g2 g4 : Nat) (v3 v : Value) (l : List S25) : Prop := Kd.N k25 25 W w.heap.size (fun k => (w.heap.size ≤ k ∧ k ≠ g1 ∧ k ≠ g2 ∧ k ≠ g4) ∧ some k ≠ v3.ownBlock) v l
abbrev N3 (w W : World) (g1 g2 g4 : Nat) (v : Value) (l : List S41) : Prop := Kd.N k41 41 W w.heap.size (fun k => w.heap.size ≤ k ∧ k ≠ g1 ∧ k ≠ g2 ∧ k ≠ g4) v l
theorem KI.nlit (h : KI w W g1 g2 g4 a b c m x v3 v4) (hE : MadeE lo W xe va vb) (hlo : Fr w g1 g2 g4 lo v3 v4) (hgd : o.guard = none) (hd : o.dst = some N)
    (hrun : (execOp a'.eval o).run P W = .ok (.value (.slice (some ⟨W.heap.size, 0, none⟩) 1 1)) (W.alloc (.cells #[.int .i64 xe.f0, .string xe.f1, .string xe.f2, va, vb, .string xe.f5] 25)))
    (K : ∀ A n c' w1, KI w w1 g1 g2 g4 a b c m x v3 v4 → N4 w w1 g1 g2 g4 v3 (.slice A n c') [xe] → wpList P ops Q rest (a'.put o.dst (.slice A n c')) w1) : wpList P ops Q (o :: rest) a' W :=
  Kd.N_lit k25 (w0 := w) w.heap.size 25 hgd hd (xs := [xe]) (inner := [.int .i64 xe.f0, .string xe.f1, .string xe.f2, va, vb, .string xe.f5]) (ok := fun k => (w.heap.size ≤ k ∧ k ≠ g1 ∧ k ≠ g2 ∧ k ≠ g4) ∧ some k ≠ v3.ownBlock) (okp := fun k => lo ≤ k) hrun (Reps.c6 hE.fk (Reps.none _ _)) (fun k hk => (hlo k hk).1) (h.fresh _ (Nat.le_refl _)).1 h.bw h.bw.size (by simp)
    (fun v1 w1 hn hb hg _ => by
      obtain ⟨A, n, c', rfl⟩ := N_any hn
      exact K A n c' w1 (h.step (grown_belowK hb h.bw hg)) hn)
theorem KI.alit (h : KI w W g1 g2 g4 a b c m x v3 v4) (hgd : o.guard = none) (hd : o.dst = some N)
    (hrun : (execOp a'.eval o).run P W = .ok (.value (.slice (some ⟨W.heap.size, 0, none⟩) 1 1)) (W.alloc (.cells #[.string ya.f0, .string ya.f1, .string ya.f2] 41)))
    (K : ∀ A n c' w1, KI w w1 g1 g2 g4 a b c m x v3 v4 → N3 w w1 g1 g2 g4 (.slice A n c') [ya] → ((Value.slice A n c').ownBlock = v3.ownBlock ∨ ∃ b, (Value.slice A n c').ownBlock = some b ∧ W.heap.size ≤ b) → (∀ k, k < W.heap.size → some k ≠ v3.ownBlock → w1.heap[k]? = W.heap[k]?) → wpList P ops Q rest (a'.put o.dst (.slice A n c')) w1) : wpList P ops Q (o :: rest) a' W :=
  Kd.N_lit k41 (w0 := w) w.heap.size 41 hgd hd (xs := [ya]) (inner := [.string ya.f0, .string ya.f1, .string ya.f2]) (ok := fun k => w.heap.size ≤ k ∧ k ≠ g1 ∧ k ≠ g2 ∧ k ≠ g4) (okp := fun _ => False) hrun (Reps.c3 (k41_mkF _ _ ya) (Reps.none _ _)) (fun k hk => hk.elim) (h.fresh _ (Nat.le_refl _)).1.1 h.bw h.bw.size (by simp)
    (fun v1 w1 hn hb hg hat => by
      obtain ⟨A, n, c', rfl⟩ := N_any hn
      exact K A n c' w1 (h.step (grown_belowK hb h.bw hg)) hn (.inr hat) (fun k hk _ => hg.block k hk (by simp)))
theorem KI.alit_step (h : KI w W g1 g2 g4 a b c m x v3 v4) (hw : Region.wanted o (yielded ops a'.tmps) = true) (hd : o.dst = some N)
    (hrun : (execOp a'.eval o).run P W = .ok (.value (.slice (some ⟨W.heap.size, 0, none⟩) 1 1)) (W.alloc (.cells #[.string ya.f0, .string ya.f1, .string ya.f2] 41)))
    (K : ∀ A n c' w1, KI w w1 g1 g2 g4 a b c m x v3 v4 → N3 w w1 g1 g2 g4 (.slice A n c') [ya] → ((Value.slice A n c').ownBlock = v3.ownBlock ∨ ∃ b, (Value.slice A n c').ownBlock = some b ∧ W.heap.size ≤ b) → (∀ k, k < W.heap.size → some k ≠ v3.ownBlock → w1.heap[k]? = W.heap[k]?) → Kc (a'.put o.dst (.slice A n c')) w1) : if Region.wanted o (yielded ops a'.tmps) = true then Oper.wp P o a' W Kc Q else Kc (a'.put o.dst undef) W :=
  Kd.N_lit_step k41 (w0 := w) w.heap.size 41 hw hd (xs := [ya]) (inner := [.string ya.f0, .string ya.f1, .string ya.f2]) (ok := fun k => w.heap.size ≤ k ∧ k ≠ g1 ∧ k ≠ g2 ∧ k ≠ g4) (okp := fun _ => False) hrun (Reps.c3 (k41_mkF _ _ ya) (Reps.none _ _)) (fun k hk => hk.elim) (h.fresh _ (Nat.le_refl _)).1.1 h.bw h.bw.size (by simp)
    (fun v1 w1 hn hb hg hat => by
      obtain ⟨A, n, c', rfl⟩ := N_any hn
      exact K A n c' w1 (h.step (grown_belowK hb h.bw hg)) hn (.inr hat) (fun k hk _ => hg.block k hk (by simp)))
theorem KI.alit1_step (h : KI w W g1 g2 g4 a b c m x v3 v4) (hw : Region.wanted o (yielded ops a'.tmps) = true) (hd : o.dst = some N)
    (hrun : (execOp a'.eval o).run P W = .ok (.value (.slice (some ⟨W.heap.size, 0, none⟩) 1 1)) (W.alloc (.cells #[.string ya.f0, .string ya.f1, .string ya.f2] 41)))
    (K : ∀ A c' w1, KI w w1 g1 g2 g4 a b c m x v3 v4 → Kd.F k41 w1 (fun k => (w.heap.size ≤ k ∧ k ≠ g1 ∧ k ≠ g2 ∧ k ≠ g4) ∧ some k ≠ v3.ownBlock) A 1 [ya] → Kc (a'.put o.dst (.slice A 1 c')) w1) : if Region.wanted o (yielded ops a'.tmps) = true then Oper.wp P o a' W Kc Q else Kc (a'.put o.dst undef) W :=
  Kd.N_lit_step k41 (w0 := w) w.heap.size 41 hw hd (xs := [ya]) (inner := [.string ya.f0, .string ya.f1, .string ya.f2]) (ok := fun k => (w.heap.size ≤ k ∧ k ≠ g1 ∧ k ≠ g2 ∧ k ≠ g4) ∧ some k ≠ v3.ownBlock) (okp := fun _ => False) hrun (Reps.c3 (k41_mkF _ _ ya) (Reps.none _ _)) (fun k hk => hk.elim) (h.fresh _ (Nat.le_refl _)).1 h.bw h.bw.size (by simp)
    (fun v1 w1 hn hb hg hat => by
      obtain ⟨A, c', rfl⟩ := Kd.N_slice hn
      exact K A c' w1 (h.step (grown_belowK hb h.bw hg)) (Kd.N_F hn))
theorem KI.nlit2_step {xf : S25} {vc vd : Value} {lo' : Nat} (h : KI w W g1 g2 g4 a b c m x v3 v4) (hE : MadeE lo W xe va vb) (hF : MadeE lo' W xf vc vd) (hlo : Fr w g1 g2 g4 lo v3 v4) (hlo' : Fr w g1 g2 g4 lo' v3 v4) (hw : Region.wanted o (yielded ops a'.tmps) = true) (hd : o.dst = some N)
    (hrun : (execOp a'.eval o).run P W = .ok (.value (.slice (some ⟨W.heap.size, 0, none⟩) 2 2)) (W.alloc (.cells #[.int .i64 xe.f0, .string xe.f1, .string xe.f2, va, vb, .string xe.f5, .int .i64 xf.f0, .string xf.f1, .string xf.f2, vc, vd, .string xf.f5] 25)))
    (K : ∀ A c' w1, KI w w1 g1 g2 g4 a b c m x v3 v4 → Kd.F k25 w1 (fun k => ((w.heap.size ≤ k ∧ k ≠ g1 ∧ k ≠ g2 ∧ k ≠ g4) ∧ some k ≠ v3.ownBlock) ∧ some k ≠ v4.ownBlock) A 2 [xe, xf] → Kc (a'.put o.dst (.slice A 2 c')) w1) : if Region.wanted o (yielded ops a'.tmps) = true then Oper.wp P o a' W Kc Q else Kc (a'.put o.dst undef) W :=
  Kd.N_lit_step k25 (w0 := w) w.heap.size 25 hw hd (xs := [xe, xf]) (inner := [.int .i64 xe.f0, .string xe.f1, .string xe.f2, va, vb, .string xe.f5, .int .i64 xf.f0, .string xf.f1, .string xf.f2, vc, vd, .string xf.f5]) (ok := fun k => ((w.heap.size ≤ k ∧ k ≠ g1 ∧ k ≠ g2 ∧ k ≠ g4) ∧ some k ≠ v3.ownBlock) ∧ some k ≠ v4.ownBlock) (okp := fun k => lo ≤ k ∨ lo' ≤ k) hrun (Reps.c6 (Kd.FK_mono hE.fk (fun _ hk => .inl hk)) (Reps.c6 (Kd.FK_mono hF.fk (fun _ hk => .inr hk)) (Reps.none _ _))) (fun k hk => by rcases hk with hk | hk; exact hlo k hk; exact hlo' k hk) (h.fresh _ (Nat.le_refl _)) h.bw h.bw.size (by simp)
    (fun v1 w1 hn hb hg _ => by
      obtain ⟨A, c', rfl⟩ := Kd.N_slice hn
      exact K A c' w1 (h.step (grown_belowK hb h.bw hg)) (Kd.N_F hn))
end
theorem KI.bit4 {w W W1 : World} {g1 g2 g4 : Nat} {a b c : Int} {m : Nat} {x : S25} {v3 v4 : Value} (h : KI w W g1 g2 g4 a b c m x v3 v4) (hm : ∀ k, k < W.heap.size → some k ≠ v4.ownBlock → W1.heap[k]? = W.heap[k]?) : W1.cell? ⟨g1, 1, none⟩ = some (.int .u8 b) ∧ W1.cell? ⟨g1, 2, none⟩ = some (.int .u8 c) := by
  have q1 := (hm g1 (blk_lt h.b1) (fun e => (h.r4.1 g1 e.symm).1.2.1 rfl)).trans h.b1
  exact ⟨(blk_cell q1 1).trans rfl, (blk_cell q1 2).trans rfl⟩
theorem KI.bit3 {w W W1 : World} {g1 g2 g4 : Nat} {a b c : Int} {m : Nat} {x : S25} {v3 v4 : Value} (h : KI w W g1 g2 g4 a b c m x v3 v4) (hm : ∀ k, k < W.heap.size → some k ≠ v3.ownBlock → W1.heap[k]? = W.heap[k]?) : W1.cell? ⟨g1, 1, none⟩ = some (.int .u8 b) ∧ W1.cell? ⟨g1, 2, none⟩ = some (.int .u8 c) := by
  have q1 := (hm g1 (blk_lt h.b1) (fun e => (h.r3.1 g1 e.symm).2.1 rfl)).trans h.b1
  exact ⟨(blk_cell q1 1).trans rfl, (blk_cell q1 2).trans rfl⟩
theorem KI.blk2 {w W : World} {g1 g2 g4 : Nat} {a b c : Int} {m : Nat} {x : S25} {v3 v4 : Value} (h : KI w W g1 g2 g4 a b c m x v3 v4) : ((((((W.setCell ⟨g2, 0, none⟩ (.int .i64 x.f0)).setCell ⟨g2, 1, none⟩ (.string x.f1)).setCell ⟨g2, 2, none⟩ (.string x.f2)).setCell ⟨g2, 3, none⟩ v3).setCell ⟨g2, 4, none⟩ v4).setCell ⟨g2, 5, none⟩ (.string x.f5)).heap[g2]? = some (.cells #[.int .i64 x.f0, .string x.f1, .string x.f2, v3, v4, .string x.f5] 25 (0, 0)) :=
  blk_put (blk_put (blk_put (blk_put (blk_put (blk_put h.b2 0 _ rfl) 1 _ rfl) 2 _ rfl) 3 _ rfl) 4 _ rfl) 5 _ rfl
theorem KI_le {w W : World} {g1 g2 g4 : Nat} {a b c : Int} {m m' : Nat} {x : S25} {v3 v4 : Value} (h : KI w W g1 g2 g4 a b c m x v3 v4) (hm : m ≤ m') : KI w W g1 g2 g4 a b c m' x v3 v4 := ⟨h.bw, h.b1, h.b2, h.b4, h.o1, h.o2, h.o4, h.r3, h.r4, h.sm.le hm⟩
theorem info41 : (Tryz.prog.info? 41).map (fun i => (i.zero, i.size, i.bytes)) = some (some (.agg #[(.string ⟨#[]⟩), (.string ⟨#[]⟩), (.string ⟨#[]⟩)]), 3, 48) := by kernel_rfl
theorem half_ok (x : Int) : 0 ≤ x % 256 ∧ x % 256 ≤ 255 := by omega
theorem sm_bare : Sm ⟨0, ⟨#[104, 116, 116, 112, 58, 47, 47, 119, 119, 119, 46, 119, 51, 46, 111, 114, 103, 47, 49, 57, 57, 57, 47, 120, 104, 116, 109, 108]⟩, ⟨#[100, 105, 118]⟩, [], [], ⟨#[]⟩⟩ := Sm.mk _ (by decide) (by decide) (by decide) (by decide) (by decide) (fun a ha => by simp at ha) (fun a ha => by simp at ha)
section
variable {ops : Array Oper} {rest : List Oper} {o : Oper} {a' : Act} {Q : Exit → Act → World → Prop}
variable {w W : World} {g1 g2 g4 : Nat} {a b c : Int} {m : Nat} {x xe : S25} {v3 v4 va vb : Value} {lo : Nat} {N : Tmp} {ya : S41}
theorem KI.nlit1 (h : KI w W g1 g2 g4 a b c m x v3 v4) (hE : MadeE W.heap.size W xe va vb) (hgd : o.guard = none) (hd : o.dst = some N)
    (hrun : (execOp a'.eval o).run Tryz.prog W = .ok (.value (.slice (some ⟨W.heap.size, 0, none⟩) 1 1)) (W.alloc (.cells #[.int .i64 xe.f0, .string xe.f1, .string xe.f2, va, vb, .string xe.f5] 25)))
    (K : ∀ A c' w1, KI w w1 g1 g2 g4 a b c m x v3 v4 → Kd.F k25 w1 (fun k => ((w.heap.size ≤ k ∧ k ≠ g1 ∧ k ≠ g2 ∧ k ≠ g4) ∧ some k ≠ v3.ownBlock) ∧ some k ≠ v4.ownBlock) A 1 [xe] → wpList Tryz.prog ops Q rest (a'.put o.dst (.slice A 1 c')) w1) : wpList Tryz.prog ops Q (o :: rest) a' W :=
  Kd.N_lit k25 (w0 := w) w.heap.size 25 hgd hd (xs := [xe]) (inner := [.int .i64 xe.f0, .string xe.f1, .string xe.f2, va, vb, .string xe.f5]) (ok := fun k => ((w.heap.size ≤ k ∧ k ≠ g1 ∧ k ≠ g2 ∧ k ≠ g4) ∧ some k ≠ v3.ownBlock) ∧ some k ≠ v4.ownBlock) (okp := fun k => W.heap.size ≤ k) hrun (Reps.c6 hE.fk (Reps.none _ _)) (fun k hk => h.fresh k hk) (h.fresh _ (Nat.le_refl _)) h.bw h.bw.size (by simp)
    (fun v1 w1 hn hb hg _ => by
      obtain ⟨A, c', rfl⟩ := Kd.N_slice hn
      exact K A c' w1 (h.step (grown_belowK hb h.bw hg)) (Kd.N_F hn))
theorem KI.alit1 (h : KI w W g1 g2 g4 a b c m x v3 v4) (hgd : o.guard = none) (hd : o.dst = some N)
    (hrun : (execOp a'.eval o).run Tryz.prog W = .ok (.value (.slice (some ⟨W.heap.size, 0, none⟩) 1 1)) (W.alloc (.cells #[.string ya.f0, .string ya.f1, .string ya.f2] 41)))
    (K : ∀ A c' w1, KI w w1 g1 g2 g4 a b c m x v3 v4 → Kd.F k41 w1 (fun k => (w.heap.size ≤ k ∧ k ≠ g1 ∧ k ≠ g2 ∧ k ≠ g4) ∧ some k ≠ v3.ownBlock) A 1 [ya] → wpList Tryz.prog ops Q rest (a'.put o.dst (.slice A 1 c')) w1) : wpList Tryz.prog ops Q (o :: rest) a' W :=
  Kd.N_lit k41 (w0 := w) w.heap.size 41 hgd hd (xs := [ya]) (inner := [.string ya.f0, .string ya.f1, .string ya.f2]) (ok := fun k => (w.heap.size ≤ k ∧ k ≠ g1 ∧ k ≠ g2 ∧ k ≠ g4) ∧ some k ≠ v3.ownBlock) (okp := fun _ => False) hrun (Reps.c3 (k41_mkF _ _ ya) (Reps.none _ _)) (fun k hk => hk.elim) (h.fresh _ (Nat.le_refl _)).1 h.bw h.bw.size (by simp)
    (fun v1 w1 hn hb hg _ => by
      obtain ⟨A, c', rfl⟩ := Kd.N_slice hn
      exact K A c' w1 (h.step (grown_belowK hb h.bw hg)) (Kd.N_F hn))
theorem KI.app4 {s y : Operand} {A : Option Addr} {n k' : Nat} {ys : List S25} (h : KI w W g1 g2 g4 a b c m x v3 v4) (hgd : o.guard = none) (hd : o.dst = some N)
    (ho : o.op = .call { callee := .builtin .append, args := #[s, y], argTypes := #[23, 23] }) (hs : a'.eval s = v4) (hx : a'.eval y = .slice A n k')
    (HF : Kd.F k25 W (fun k => ((w.heap.size ≤ k ∧ k ≠ g1 ∧ k ≠ g2 ∧ k ≠ g4) ∧ some k ≠ v3.ownBlock) ∧ some k ≠ v4.ownBlock) A n ys) (hsm : ∀ z ∈ ys, Sm z) {m' : Nat} (hm : m ≤ m') (hl : x.f4.length + ys.length ≤ m') (hn : n ≤ 3) (hm3 : m ≤ 3)
    (K : ∀ A n c' w1, w1.cell? ⟨g4, 4, none⟩ = some v4 → w1.frozen? ⟨g4, 4, none⟩ = false → w1.cell? ⟨g1, 1, none⟩ = some (.int .u8 b) → w1.cell? ⟨g1, 2, none⟩ = some (.int .u8 c) → KI w (w1.setCell ⟨g4, 4, none⟩ (.slice A n c')) g1 g2 g4 a b c m' ⟨x.f0, x.f1, x.f2, x.f3, x.f4 ++ ys, x.f5⟩ v3 (.slice A n c') → wpList Tryz.prog ops Q rest (a'.put o.dst (.slice A n c')) w1) : wpList Tryz.prog ops Q (o :: rest) a' W := by
  refine Kd.N_append_rows k25 (w0 := w) w.heap.size hgd s y 23 25 _ 104 ho Tryz.underlying23 info25 (by rfl) (by decide) (by decide) v4 x.f4 ys A n k' _ _ hs hx h.r4 HF (fun _ hk => hk) (fun k hk => (h.fresh k hk).1) h.bw h.bw.size (by have := h.sm.n4; omega) ?_
  intro v1 w1 hn hb hg hat
  obtain ⟨A1, m1, k1, rfl⟩ := N_any hn
  have hp4 := KI.put4 h hn hb (fun k hk hne => hg.block k hk hne) (h.sm.put4 _ m' hm (by rw [List.length_append]; exact hl) (fun z hz => by rcases List.mem_append.1 hz with hz | hz; exact h.sm.kd4 z hz; exact hsm z hz))
  have hbt := h.bit4 (fun k hk hne => hg.block k hk hne)
  exact K A1 m1 k1 w1 hp4.1.1 hp4.1.2 hbt.1 hbt.2 hp4.2
theorem KI.app3 {s y : Operand} {A : Option Addr} {n k' : Nat} {ys : List S41} (h : KI w W g1 g2 g4 a b c m x v3 v4) (hgd : o.guard = none) (hd : o.dst = some N)
    (ho : o.op = .call { callee := .builtin .append, args := #[s, y], argTypes := #[22, 22] }) (hs : a'.eval s = v3) (hx : a'.eval y = .slice A n k')
    (HF : Kd.F k41 W (fun k => (w.heap.size ≤ k ∧ k ≠ g1 ∧ k ≠ g2 ∧ k ≠ g4) ∧ some k ≠ v3.ownBlock) A n ys) (hsm : ∀ z ∈ ys, z.f0.size ≤ 100 ∧ z.f1.size ≤ 100 ∧ z.f2.size ≤ 100) {m' : Nat} (hm : m ≤ m') (hl : x.f3.length + ys.length ≤ m') (hn : n ≤ 3) (hm3 : m ≤ 3)
    (K : ∀ A n c' w1, w1.cell? ⟨g4, 3, none⟩ = some v3 → w1.frozen? ⟨g4, 3, none⟩ = false → w1.cell? ⟨g1, 1, none⟩ = some (.int .u8 b) → w1.cell? ⟨g1, 2, none⟩ = some (.int .u8 c) → KI w (w1.setCell ⟨g4, 3, none⟩ (.slice A n c')) g1 g2 g4 a b c m' ⟨x.f0, x.f1, x.f2, x.f3 ++ ys, x.f4, x.f5⟩ (.slice A n c') v4 → wpList Tryz.prog ops Q rest (a'.put o.dst (.slice A n c')) w1) : wpList Tryz.prog ops Q (o :: rest) a' W := by
  refine Kd.N_append_rows k41 (w0 := w) w.heap.size hgd s y 22 41 _ 48 ho Tryz.underlying22 info41 (by rfl) (by decide) (by decide) v3 x.f3 ys A n k' _ _ hs hx h.r3 HF (fun _ hk => hk) (fun k hk => (h.fresh k hk).1.1) h.bw h.bw.size (by have := h.sm.n3; omega) ?_
  intro v1 w1 hn hb hg hat
  obtain ⟨A1, m1, k1, rfl⟩ := N_any hn
  have hp3 := KI.put3 h hn hb (fun k hk hne => hg.block k hk hne) hat (h.sm.put3 _ m' hm (by rw [List.length_append]; exact hl) (fun z hz => by rcases List.mem_append.1 hz with hz | hz; exact h.sm.at3 z hz; exact hsm z hz))
  have hbt := h.bit3 (fun k hk hne => hg.block k hk hne)
  exact K A1 m1 k1 w1 hp3.1.1 hp3.1.2 hbt.1 hbt.2 hp3.2
theorem KI.alitp (h : KI w W g1 g2 g4 a b c m x v3 v4) (hgd : o.guard = none) (hd : o.dst = some N)
    (hrun : (execOp a'.eval o).run Tryz.prog W = .ok (.value (.slice (some ⟨W.heap.size, 0, none⟩) 1 1)) (W.alloc (.cells #[.string ya.f0, .string ya.f1, .string ya.f2] 41)))
    {m' : Nat} (hm : m ≤ m') (h1 : 1 ≤ m') (hsm : ya.f0.size ≤ 100 ∧ ya.f1.size ≤ 100 ∧ ya.f2.size ≤ 100)
    (K : ∀ A n c' w1, w1.cell? ⟨g4, 3, none⟩ = some v3 → w1.frozen? ⟨g4, 3, none⟩ = false → w1.cell? ⟨g1, 1, none⟩ = some (.int .u8 b) → w1.cell? ⟨g1, 2, none⟩ = some (.int .u8 c) → KI w (w1.setCell ⟨g4, 3, none⟩ (.slice A n c')) g1 g2 g4 a b c m' ⟨x.f0, x.f1, x.f2, [ya], x.f4, x.f5⟩ (.slice A n c') v4 → wpList Tryz.prog ops Q rest (a'.put o.dst (.slice A n c')) w1) : wpList Tryz.prog ops Q (o :: rest) a' W := by
  refine KI.alit (ya := ya) h hgd hd hrun ?_
  intro A n c' w1 hk hn hv hmv
  have hp3 := KI.put3 h hn hk.bw hmv hv (h.sm.put3 _ m' hm h1 (fun y hy => by rw [List.mem_singleton.1 hy]; exact hsm))
  have hbt := hk.bit
  exact K A n c' w1 hp3.1.1 hp3.1.2 hbt.1 hbt.2 hp3.2
end
set_option maxHeartbeats 4000000 in
theorem kid_c (a b c : Int) (w : World) (ha0 : 0 ≤ a) (ha1 : a ≤ 255) (hb0 : 0 ≤ b) (hb1 : b ≤ 255) (hc0 : 0 ≤ c) (hc1 : c ≤ 255) :
    Calls Tryz.prog 34 #[.agg #[.int .u8 a, .int .u8 b, .int .u8 c]] w fun e w' => ∃ x A3 n3 c3 A4 n4 c4, e = .returned (.agg #[.int .i64 x.f0, .string x.f1, .string x.f2, .slice A3 n3 c3, .slice A4 n4 c4, .string x.f5]) ∧ Kd.FK k25 w' (fun k => w.heap.size ≤ k) x [.int .i64 x.f0, .string x.f1, .string x.f2, .slice A3 n3 c3, .slice A4 n4 c4, .string x.f5] ∧ Sm x ∧ Below w.heap.size w w' := by
  have HA := Lib.hid (And.intro ha0 ha1)
  have HBB := Lib.hid (And.intro hb0 hb1)
  have HCC := Lib.hid (And.intro hc0 hc1)
  clear ha0 ha1 hb0 hb1 hc0 hc1
  go_enter Tryz.func34, Tryz.ntmps34
  go_wp2_with (first | ((with_reducible refine gate_dst (N := 1) rfl ?_); refine box_event ?hg (N := 1) ?hd (cs := #[.int .u8 a, .int .u8 b, .int .u8 c]) (t := 36) ?hr ?_; (case hd => rfl); (case hg => rfl); (case hr => first | (go_simp; done) | (go_simp; rfl)); intro g1 hg_g1 w1 hx_g1 hb1; have HX1 := Lib.hid (And.intro hx_g1 hb1); have HG1 := Lib.hid hg_g1; clear hx_g1 hb1 hg_g1) | ((with_reducible refine gate_dst (N := 2) rfl ?_); refine box_event ?hg (N := 2) ?hd (cs := #[.int .i64 0, .string ⟨#[]⟩, .string ⟨#[]⟩, .slice none 0 0, .slice none 0 0, .string ⟨#[]⟩]) (t := 25) ?hr ?_; (case hd => rfl); (case hg => rfl); (case hr => first | (go_simp; done) | (go_simp; rfl)); intro g2 hg_g2 w2 hx_g2 hb2; have HX2 := Lib.hid (And.intro (blk_below HX1.out.1 hb2) hx_g2); have HB2 := Lib.hid (HX1.out.2.trans (hb2.mono HX1.out.2.size)); have HO : Hid (w.heap.size ≤ g1 ∧ g1 < g2 ∧ g2 < w2.heap.size) := ⟨by rw [HG1.out]; exact Nat.le_refl _, by rw [hg_g2]; exact blk_lt HX1.out.1, blk_lt hx_g2⟩; clear hx_g2 hb2 hg_g2 HX1 HG1; have d0 : w2.cell? ⟨g1, 0, none⟩ = some (.int .u8 a) := (blk_cell HX2.out.1 0).trans rfl) | ((with_reducible refine gate_dst (N := 7) rfl ?_); refine lit_event ?hg (N := 7) ?hd (cs := #[.string ⟨#[97, 117, 116, 104, 111, 114]⟩, .string ⟨#[99, 111, 110, 116, 114, 105, 98, 117, 116, 111, 114]⟩, .string ⟨#[117, 112, 100, 97, 116, 101, 100]⟩, .string ⟨#[112, 117, 98, 108, 105, 115, 104, 101, 100]⟩, .string ⟨#[116, 105, 116, 108, 101]⟩, .string ⟨#[115, 117, 109, 109, 97, 114, 121]⟩, .string ⟨#[114, 105, 103, 104, 116, 115]⟩, .string ⟨#[105, 100]⟩, .string ⟨#[108, 105, 110, 107]⟩, .string ⟨#[99, 97, 116, 101, 103, 111, 114, 121]⟩, .string ⟨#[99, 111, 110, 116, 101, 110, 116]⟩, .string ⟨#[120]⟩]) (n := 12) ?hr ?h1 ?h2 ?h3 ?h4 ?_; (case hd => rfl); (case hg => rfl); (case hr => first | (go_simp; done) | (go_simp; rfl)); (case h1 => rfl); (case h2 => decide); (case h3 => decide); (case h4 => rfl); intro A7 w3 hp hb3; have HX3 := Lib.hid (And.intro (blk_below HX2.out.1 hb3) (blk_below HX2.out.2 hb3)); have HB3 := Lib.hid (HB2.out.trans (hb3.mono HB2.out.size)); have HP := Lib.hid hp; have HS3 := Lib.hid hb3.size; clear hp hb3 HX2 HB2 d0) | (go_at_call 66; with_reducible refine (pick_c _ HP.out HA.out.1 HA.out.2).mono ?_; rintro e w4 ⟨nm, rfl, hnm, hb4⟩; have HX4 := Lib.hid (And.intro (blk_below HX3.out.1 hb4) (blk_below HX3.out.2 hb4)); have HB4 := Lib.hid (HB3.out.trans (hb4.mono HB3.out.size)); have HNM := Lib.hid hnm; have HS4 := Lib.hid (Nat.le_trans HS3.out hb4.size); clear hnm hb4 HX3 HB3 HP HS3; have d1 : w4.cell? ⟨g1, 1, none⟩ = some (.int .u8 b) := (blk_cell HX4.out.1 1).trans rfl) | ((with_reducible refine gate_dst (N := 12) rfl ?_); refine lit_event ?hg (N := 12) ?hd (cs := #[.string ⟨#[]⟩, .string ⟨#[120]⟩, .string ⟨#[32, 50, 48, 48, 53, 45, 48, 55, 45, 51, 49, 84, 49, 50, 58, 50, 57, 58, 50, 57, 90, 32]⟩, .string ⟨#[104, 116, 116, 112, 58, 47, 47, 97, 47, 98]⟩, .string ⟨#[97, 32, 98]⟩, .string ⟨#[98]⟩, .string ⟨#[50, 48, 48, 53, 45, 48, 50, 45, 51, 48, 84, 48, 48, 58, 48, 48, 58, 48, 48, 90]⟩]) (n := 7) ?hr ?h1 ?h2 ?h3 ?h4 ?_; (case hd => rfl); (case hg => rfl); (case hr => first | (go_simp; done) | (go_simp; rfl)); (case h1 => rfl); (case h2 => decide); (case h3 => decide); (case h4 => rfl); intro A12 w5 hp hb5; have HX5 := Lib.hid (And.intro (blk_below HX4.out.1 hb5) (blk_below HX4.out.2 hb5)); have HB5 := Lib.hid (HB4.out.trans (hb5.mono HB4.out.size)); have HP := Lib.hid hp; have HS5 := Lib.hid (Nat.le_trans HS4.out hb5.size); clear hp hb5 HX4 HB4 HS4 d1) | (go_at_call 66; with_reducible refine (pick_c _ HP.out HBB.out.1 HBB.out.2).mono ?_; rintro e w6 ⟨tx, rfl, htx, hb6⟩; have HX6 := Lib.hid (And.intro (blk_below HX5.out.1 hb6) (blk_below HX5.out.2 hb6)); have HB6 := Lib.hid (HB5.out.trans (hb6.mono HB5.out.size)); have HTX := Lib.hid htx; have HS6 := Lib.hid (Nat.le_trans HS5.out hb6.size); clear htx hb6 HX5 HB5 HP HS5))
  with_reducible refine (el_c _ _ _ HNM.out HTX.out).mono ?_
  rintro e w7 ⟨x, va, vb, rfl, hme, hks, hb7⟩
  obtain ⟨A3, n3, c3, rfl⟩ := N_any hme.1
  obtain ⟨A4, n4, c4, rfl⟩ := N_any hme.2
  have HX7 := Lib.hid (And.intro (blk_below HX6.out.1 hb7) (blk_below HX6.out.2 hb7))
  have HB7 := Lib.hid (HB6.out.trans (hb7.mono HB6.out.size))
  have HME := Lib.hid hme
  have HKS := Lib.hid hks
  have HS7 := Lib.hid hb7.size
  have HW6 := Lib.hid HB6.out.size
  have HLO : Hid (g2 < w6.heap.size) := Nat.lt_of_lt_of_le HO.out.2.2 HS6.out
  clear hme hks hb7 HX6 HB6 HTX HS6
  go_upto_if 16 with (first | ((with_reducible refine gate_dst (N := 4) rfl ?_); refine box_event ?hg (N := 4) ?hd (cs := #[.int .i64 0, .string ⟨#[]⟩, .string ⟨#[]⟩, .slice none 0 0, .slice none 0 0, .string ⟨#[]⟩]) (t := 25) ?hr ?_; (case hd => rfl); (case hg => rfl); (case hr => first | (go_simp; done) | (go_simp; rfl)); intro g4 hg_g4 w8 hx_g4 hb8; have HK0 := Lib.hid (And.intro hx_g4 (And.intro hg_g4 hb8)); obtain ⟨z0, z1, z2, z3, z4, z5⟩ := box6 hx_g4; have y0 := blk_frozen hx_g4 0; have y1 := blk_frozen hx_g4 1; have y2 := blk_frozen hx_g4 2; have y3 := blk_frozen hx_g4 3; have y4 := blk_frozen hx_g4 4; have y5 := blk_frozen hx_g4 5; clear hx_g4 hg_g4 hb8))
  have HK := Lib.hid (KI.start HB7.out HX7.out.1 HX7.out.2 HO.out.1 HO.out.2.1 HLO.out HS7.out HME.out HKS.out HK0.out.1 HK0.out.2.1 HK0.out.2.2)
  clear HB7 HX7 HO HLO HS7 HW6 HME HKS HK0 z0 z1 z2 z3 z4 z5 y0 y1 y2 y3 y4 y5
  generalize (((((((w8.setCell ⟨g4, 0, none⟩ (.int .i64 x.f0)).setCell ⟨g4, 1, none⟩ (.string x.f1)).setCell ⟨g4, 2, none⟩ (.string x.f2)).setCell ⟨g4, 3, none⟩ (.slice A3 n3 c3)).setCell ⟨g4, 4, none⟩ (.slice A4 n4 c4)).setCell ⟨g4, 5, none⟩ (.string x.f5))) = w9 at HK ⊢
  go_cut [16] (fun v16 wc => ∃ q : Bool, v16 = .bool q ∧ wc = w9)
  case first =>
    cases hq : (nm.toList == ([97, 117, 116, 104, 111, 114] : List UInt8))
    · go_wp2
      go_meet
      case rel => exact ⟨_, rfl, rfl⟩
    · go_wp2
      go_meet
      case rel => exact ⟨_, rfl, rfl⟩
  case rest =>
    obtain ⟨q, rfl, rfl⟩ := hcut
    cases q
    case true =>
      obtain ⟨d1, d2⟩ := HK.out.bit
      have n14 : g1 ≠ g4 := by have := HK.out.o2; have := HK.out.o4; omega
      go_wp2_with (first | ((with_reducible refine gate_dst (N := 21) rfl ?_); refine lit_event ?hg (N := 21) ?hd (cs := #[.string ⟨#[65]⟩, .string ⟨#[32]⟩, .string ⟨#[]⟩, .string ⟨#[66]⟩]) (n := 4) ?hr ?h1 ?h2 ?h3 ?h4 ?_; (case hd => rfl); (case hg => rfl); (case hr => first | (go_simp; done) | (go_simp; rfl)); (case h1 => rfl); (case h2 => decide); (case h3 => decide); (case h4 => rfl); intro A21 w10 hp hb; have HK := Lib.hid (HK.out.step hb); have HP1 := Lib.hid hp; clear hp hb d1 d2; obtain ⟨d1, d2⟩ := HK.out.bit) | (go_at_call 66; with_reducible refine (pick_c _ HP1.out HBB.out.1 HBB.out.2).mono ?_; rintro e w11 ⟨s22, rfl, hs, hb⟩; have HK := Lib.hid (HK.out.step hb); have HS22 := Lib.hid hs; clear hs hb d1 d2; obtain ⟨d1, d2⟩ := HK.out.bit))
      with_reducible refine (el_c _ _ _ (by decide) HS22.out).mono ?_
      rintro e w12 ⟨xe, vae, vbe, rfl, hme, hks, hb⟩
      obtain ⟨A3e, n3e, c3e, rfl⟩ := N_any hme.1
      obtain ⟨A4e, n4e, c4e, rfl⟩ := N_any hme.2
      have HEe := Lib.hid hme
      have HKEe := Lib.hid hks
      have HFRe : Hid (Fr _ _ _ _ _ _ _) := HK.out.fresh
      have HK := Lib.hid (HK.out.step hb)
      clear hme hks hb d1 d2
      obtain ⟨d1, d2⟩ := HK.out.bit
      go_upto_if 29 with (first | ((with_reducible refine gate_dst (N := 24) rfl ?_); refine KI.nlit HK.out HEe.out HFRe.out ?hg (N := 24) ?hd ?hr ?_; (case hg => rfl); (case hd => rfl); (case hr => first | (go_simp; done) | (go_simp; rfl)); intro A24 m24 k24 w13 hk hn; have hp4 := KI.put4 hk hn hk.bw (fun k _ _ => rfl) (hk.sm.put4 _ 1 (Nat.le_refl _) (Nat.le_refl _) (fun y hy => by rw [List.mem_singleton.1 hy]; exact HKEe.out.sm (by decide))); have hc4 := hp4.1.1; have hf4 := hp4.1.2; have HK := Lib.hid hp4.2; clear hp4; clear d1 d2; obtain ⟨d1, d2⟩ := hk.bit; clear hk hn))
      generalize (w13.setCell ⟨g4, 4, none⟩ (.slice A24 m24 k24)) = w14 at HK ⊢
      clear d1 d2 hc4 hf4 HEe HKEe HFRe HP1 HS22
      obtain ⟨x5, hx5⟩ : ∃ x5, x5 = (⟨x.f0, x.f1, x.f2, x.f3, [xe], x.f5⟩ : S25) := ⟨_, rfl⟩
      rw [← hx5] at HK
      clear hx5
      cases hq : (Int.tmod c 3 == 0)
      case true =>
        go_wp2_with fail
        have HK := Lib.hid (HK.out.step (below_drew (Below.refl _ _)))
        refine start_ (n := 16) (S := fun w' => w'.cell? ⟨g1, 1, none⟩ = some (.int .u8 b) ∧ w'.cell? ⟨g1, 2, none⟩ = some (.int .u8 c) ∧ w'.cell? ⟨g4, 4, none⟩ = some (.slice A24 m24 k24)) (ds := [15]) #[false, false, false, false, false, false, false, false, false, false, false, false, false, false, false, false] (by kernel_rfl) rfl rfl ⟨HK.out.bit.1, HK.out.bit.2, HK.out.c4.1⟩ (fun hHeld => ?_)
        generalize hwd_ : World.drew _ = w15 at HK hHeld ⊢
        clear hwd_
        refine pure_ (i := 0) (N := some 30) (v := ?_) (a' := ?_) #[true, false, false, false, false, false, false, false, false, false, false, false, false, false, false, false] rfl rfl (by kernel_rfl) (fun _ _ _ h => h) (Or.inl ⟨by rfl, ?_⟩) ?_ ?_
        rotate_left
        · intro w'
          go_simp
          with_reducible rfl
        rotate_left
        · simp only [Act.put, List.setIfInBounds_toArray, List.set_cons_zero, List.set_cons_succ, i64_w, i32_w]
          rfl
        refine pure_ (i := 2) (N := some 32) (v := ?_) (a' := ?_) #[true, false, true, false, false, false, false, false, false, false, false, false, false, false, false, false] rfl rfl (by kernel_rfl) (fun _ _ _ h => h) (Or.inl ⟨by rfl, ?_⟩) ?_ ?_
        rotate_left
        · intro w'
          go_simp
          with_reducible rfl
        rotate_left
        · simp only [Act.put, List.setIfInBounds_toArray, List.set_cons_zero, List.set_cons_succ, i64_w, i32_w]
          rfl
        refine pure_ (i := 7) (N := some 37) (v := ?_) (a' := ?_) #[true, false, true, false, false, false, false, true, false, false, false, false, false, false, false, false] rfl rfl (by kernel_rfl) (fun _ _ _ h => h) (Or.inl ⟨by rfl, ?_⟩) ?_ ?_
        rotate_left
        · intro w'
          go_simp
          with_reducible rfl
        rotate_left
        · simp only [Act.put, List.setIfInBounds_toArray, List.set_cons_zero, List.set_cons_succ, i64_w, i32_w]
          rfl
        refine take_ (i := 1) (N := some 31) (v := ?_) (a' := ?_) #[true, true, true, false, false, false, false, true, false, false, false, false, false, false, false, false] rfl rfl (by kernel_rfl) (fun _ _ _ h => h) (Or.inl ⟨by rfl, ?_⟩) hHeld ?_ ?_
        rotate_left
        · rintro w' ⟨s0, s1, s2⟩
          go_simp
          with_reducible rfl
        rotate_left
        · simp only [Act.put, List.setIfInBounds_toArray, List.set_cons_zero, List.set_cons_succ, i64_w, i32_w]
          rfl
        refine take_ (i := 3) (N := some 33) (v := ?_) (a' := ?_) #[true, true, true, true, false, false, false, true, false, false, false, false, false, false, false, false] rfl rfl (by kernel_rfl) (fun _ _ _ h => h) (Or.inl ⟨by rfl, ?_⟩) hHeld ?_ ?_
        rotate_left
        · rintro w' ⟨s0, s1, s2⟩
          go_simp
          with_reducible rfl
        rotate_left
        · simp only [Act.put, List.setIfInBounds_toArray, List.set_cons_zero, List.set_cons_succ, i64_w, i32_w]
          rfl
        refine take_ (i := 8) (N := some 38) (v := ?_) (a' := ?_) #[true, true, true, true, false, false, false, true, true, false, false, false, false, false, false, false] rfl rfl (by kernel_rfl) (fun _ _ _ h => h) (Or.inl ⟨by rfl, ?_⟩) hHeld ?_ ?_
        rotate_left
        · rintro w' ⟨s0, s1, s2⟩
          go_simp
          with_reducible rfl
        rotate_left
        · simp only [Act.put, List.setIfInBounds_toArray, List.set_cons_zero, List.set_cons_succ, i64_w, i32_w]
          rfl
        refine join_ (σ := Option Addr × ByteArray × S25 × Value × Value × Option Addr) 6 #[true, true, true, true, true, true, true, true, true, true, false, false, false, false, false, false] (fun s_ => [(34, .slice s_.1 5 5), (35, .string s_.2.1), (36, .agg #[.int .i64 s_.2.2.1.f0, .string s_.2.2.1.f1, .string s_.2.2.1.f2, s_.2.2.2.1, s_.2.2.2.2.1, .string s_.2.2.1.f5]), (39, .slice s_.2.2.2.2.2 3 3)]) (fun s_ w' => (w'.cell? ⟨g1, 1, none⟩ = some (.int .u8 b) ∧ w'.cell? ⟨g1, 2, none⟩ = some (.int .u8 c) ∧ w'.cell? ⟨g4, 4, none⟩ = some (.slice A24 m24 k24)) ∧ KI w w' g1 g2 g4 a b c 1 x5 (.slice A3 n3 c3) (.slice A24 m24 k24) ∧ (∃ lo, MadeE lo w' s_.2.2.1 s_.2.2.2.1 s_.2.2.2.2.1 ∧ Fr w g1 g2 g4 lo (.slice A3 n3 c3) (.slice A24 m24 k24)) ∧ KSm 1 s_.2.2.1 ∧ PK s_.2.2.2.2.2 3 w') ?_ ?_
        rotate_left
        · intro hCont
          refine two_ (i := 4) (j := 9) (Ni := some 34) (Nj := some 39) #[true, true, true, true, true, false, false, true, true, false, false, false, false, false, false, false] #[true, true, true, true, false, false, false, true, true, true, false, false, false, false, false, false] rfl rfl rfl rfl (by kernel_rfl) (by decide) (by decide) (fun K hK => ?_) (fun K hK => ?_)
          · skip
            refine lit_step ?hw (N := 34) ?hd (cs := #[.string ⟨#[97, 64, 98]⟩, .string ⟨#[64, 98]⟩, .string ⟨#[97, 64]⟩, .string ⟨#[97, 64, 98, 64, 99]⟩, .string ⟨#[120]⟩]) (n := 5) ?hr ?h1 ?h2 ?h3 ?h4 ?_
            (case hw => rfl)
            (case hd => rfl)
            (case hr => first | (go_simp; done) | (go_simp; rfl))
            (case h1 => rfl)
            (case h2 => decide)
            (case h3 => decide)
            (case h4 => rfl)
            intro A34 w34 hp hb
            have HPa := Lib.hid hp
            have HK := Lib.hid (HK.out.step hb)
            clear hb
            clear hp
            refine hK.out _ _ ⟨HK.out.bit.1, HK.out.bit.2, HK.out.c4.1⟩ (fun hHeld => ?_)
            clear hK K
            refine norm_ (a' := ?_) ?_ ?_
            rotate_left
            · show Act.put _ (some 34) _ = _
              simp only [Act.put, List.setIfInBounds_toArray, List.set_cons_zero, List.set_cons_succ, i64_w, i32_w]
              rfl
            refine two_ (i := 5) (j := 9) (Ni := some 35) (Nj := some 39) #[true, true, true, true, true, true, false, true, true, false, false, false, false, false, false, false] #[true, true, true, true, true, false, false, true, true, true, false, false, false, false, false, false] rfl rfl rfl rfl (by kernel_rfl) (by decide) (by decide) (fun K hK => ?_) (fun K hK => ?_)
            · skip
              refine goes_ Tryz.func66 (by kernel_rfl) rfl #[.int .u8 b, .slice A34 5 5] (by rfl) rfl rfl (by (try simp only [List.map_toArray, List.map_cons, List.map_nil]); first | done | rfl) ?_
              with_reducible refine (pick_c b HPa.out HBB.out.1 HBB.out.2).mono ?_
              rintro e w35 ⟨s35, rfl, hs, hb⟩
              refine ⟨_, rfl, ?_⟩
              have HS35 := Lib.hid hs
              clear hs
              have HPa := Lib.hid (HPa.out.below hb)
              have HK := Lib.hid (HK.out.step hb)
              clear hb
              refine hK.out _ _ ⟨HK.out.bit.1, HK.out.bit.2, HK.out.c4.1⟩ (fun hHeld => ?_)
              clear hK K
              refine norm_ (a' := ?_) ?_ ?_
              rotate_left
              · show Act.put _ (some 35) _ = _
                simp only [Act.put, List.setIfInBounds_toArray, List.set_cons_zero, List.set_cons_succ, i64_w, i32_w]
                rfl
              refine two_ (i := 6) (j := 9) (Ni := some 36) (Nj := some 39) #[true, true, true, true, true, true, true, true, true, false, false, false, false, false, false, false] #[true, true, true, true, true, true, false, true, true, true, false, false, false, false, false, false] rfl rfl rfl rfl (by kernel_rfl) (by decide) (by decide) (fun K hK => ?_) (fun K hK => ?_)
              · skip
                refine goes_ Tryz.func16 (by kernel_rfl) rfl #[.string ⟨#[101, 109, 97, 105, 108]⟩, .string s35] (by rfl) rfl rfl (by (try simp only [List.map_toArray, List.map_cons, List.map_nil]); first | done | rfl) ?_
                with_reducible refine (el_c ⟨#[101, 109, 97, 105, 108]⟩ s35 _ (by decide) HS35.out).mono ?_
                rintro e w36 ⟨xm, vam, vbm, rfl, hme, hks, hb⟩
                refine ⟨_, rfl, ?_⟩
                obtain ⟨A3m, n3m, c3m, rfl⟩ := N_any hme.1
                obtain ⟨A4m, n4m, c4m, rfl⟩ := N_any hme.2
                have HEm := Lib.hid hme
                have HKEm := Lib.hid hks
                have HFRm : Hid (Fr _ _ _ _ _ _ _) := HK.out.fresh
                clear hme hks
                have HPa := Lib.hid (HPa.out.below hb)
                have HK := Lib.hid (HK.out.step hb)
                clear hb
                refine hK.out _ _ ⟨HK.out.bit.1, HK.out.bit.2, HK.out.c4.1⟩ (fun hHeld => ?_)
                clear hK K
                refine norm_ (a' := ?_) ?_ ?_
                rotate_left
                · show Act.put _ (some 36) _ = _
                  simp only [Act.put, List.setIfInBounds_toArray, List.set_cons_zero, List.set_cons_succ, i64_w, i32_w]
                  rfl
                refine one_ (i := 9) (N := some 39) #[true, true, true, true, true, true, true, true, true, true, false, false, false, false, false, false] rfl rfl (by kernel_rfl) (by decide) (fun K hK => ?_)
                refine lit_step ?hw (N := 39) ?hd (cs := #[.string ⟨#[]⟩, .string ⟨#[104, 116, 116, 112, 58, 47, 47, 97]⟩, .string ⟨#[37]⟩]) (n := 3) ?hr ?h1 ?h2 ?h3 ?h4 ?_
                (case hw => rfl)
                (case hd => rfl)
                (case hr => first | (go_simp; done) | (go_simp; rfl))
                (case h1 => rfl)
                (case h2 => decide)
                (case h3 => decide)
                (case h4 => rfl)
                intro A39 w39 hp hb
                have HPb := Lib.hid hp
                have HPa := Lib.hid (HPa.out.below hb)
                have HEm := Lib.hid (HEm.out.below hb)
                have HK := Lib.hid (HK.out.step hb)
                clear hb
                clear hp
                refine hK.out _ _ ⟨HK.out.bit.1, HK.out.bit.2, HK.out.c4.1⟩ (fun hHeld => ?_)
                clear hK K
                refine norm_ (a' := ?_) ?_ ?_
                rotate_left
                · show Act.put _ (some 39) _ = _
                  simp only [Act.put, List.setIfInBounds_toArray, List.set_cons_zero, List.set_cons_succ, i64_w, i32_w]
                  rfl
                exact norm_ (by simp only [putAll, Act.put, List.setIfInBounds_toArray, List.set_cons_zero, List.set_cons_succ]) (hCont (A34, s35, xm, .slice A3m n3m c3m, .slice A4m n4m c4m, A39) _ ⟨hHeld, HK.out, ⟨_, HEm.out, HFRm.out⟩, HKEm.out, HPb.out⟩)
              · skip
                refine lit_step ?hw (N := 39) ?hd (cs := #[.string ⟨#[]⟩, .string ⟨#[104, 116, 116, 112, 58, 47, 47, 97]⟩, .string ⟨#[37]⟩]) (n := 3) ?hr ?h1 ?h2 ?h3 ?h4 ?_
                (case hw => rfl)
                (case hd => rfl)
                (case hr => first | (go_simp; done) | (go_simp; rfl))
                (case h1 => rfl)
                (case h2 => decide)
                (case h3 => decide)
                (case h4 => rfl)
                intro A39 w39 hp hb
                have HPb := Lib.hid hp
                have HPa := Lib.hid (HPa.out.below hb)
                have HK := Lib.hid (HK.out.step hb)
                clear hb
                clear hp
                refine hK.out _ _ ⟨HK.out.bit.1, HK.out.bit.2, HK.out.c4.1⟩ (fun hHeld => ?_)
                clear hK K
                refine norm_ (a' := ?_) ?_ ?_
                rotate_left
                · show Act.put _ (some 39) _ = _
                  simp only [Act.put, List.setIfInBounds_toArray, List.set_cons_zero, List.set_cons_succ, i64_w, i32_w]
                  rfl
                refine one_ (i := 6) (N := some 36) #[true, true, true, true, true, true, true, true, true, true, false, false, false, false, false, false] rfl rfl (by kernel_rfl) (by decide) (fun K hK => ?_)
                refine goes_ Tryz.func16 (by kernel_rfl) rfl #[.string ⟨#[101, 109, 97, 105, 108]⟩, .string s35] (by rfl) rfl rfl (by (try simp only [List.map_toArray, List.map_cons, List.map_nil]); first | done | rfl) ?_
                with_reducible refine (el_c ⟨#[101, 109, 97, 105, 108]⟩ s35 _ (by decide) HS35.out).mono ?_
                rintro e w36 ⟨xm, vam, vbm, rfl, hme, hks, hb⟩
                refine ⟨_, rfl, ?_⟩
                obtain ⟨A3m, n3m, c3m, rfl⟩ := N_any hme.1
                obtain ⟨A4m, n4m, c4m, rfl⟩ := N_any hme.2
                have HEm := Lib.hid hme
                have HKEm := Lib.hid hks
                have HFRm : Hid (Fr _ _ _ _ _ _ _) := HK.out.fresh
                clear hme hks
                have HPa := Lib.hid (HPa.out.below hb)
                have HPb := Lib.hid (HPb.out.below hb)
                have HK := Lib.hid (HK.out.step hb)
                clear hb
                refine hK.out _ _ ⟨HK.out.bit.1, HK.out.bit.2, HK.out.c4.1⟩ (fun hHeld => ?_)
                clear hK K
                refine norm_ (a' := ?_) ?_ ?_
                rotate_left
                · show Act.put _ (some 36) _ = _
                  simp only [Act.put, List.setIfInBounds_toArray, List.set_cons_zero, List.set_cons_succ, i64_w, i32_w]
                  rfl
                exact norm_ (by simp only [putAll, Act.put, List.setIfInBounds_toArray, List.set_cons_zero, List.set_cons_succ]) (hCont (A34, s35, xm, .slice A3m n3m c3m, .slice A4m n4m c4m, A39) _ ⟨hHeld, HK.out, ⟨_, HEm.out, HFRm.out⟩, HKEm.out, HPb.out⟩)
            · skip
              refine lit_step ?hw (N := 39) ?hd (cs := #[.string ⟨#[]⟩, .string ⟨#[104, 116, 116, 112, 58, 47, 47, 97]⟩, .string ⟨#[37]⟩]) (n := 3) ?hr ?h1 ?h2 ?h3 ?h4 ?_
              (case hw => rfl)
              (case hd => rfl)
              (case hr => first | (go_simp; done) | (go_simp; rfl))
              (case h1 => rfl)
              (case h2 => decide)
              (case h3 => decide)
              (case h4 => rfl)
              intro A39 w39 hp hb
              have HPb := Lib.hid hp
              have HPa := Lib.hid (HPa.out.below hb)
              have HK := Lib.hid (HK.out.step hb)
              clear hb
              clear hp
              refine hK.out _ _ ⟨HK.out.bit.1, HK.out.bit.2, HK.out.c4.1⟩ (fun hHeld => ?_)
              clear hK K
              refine norm_ (a' := ?_) ?_ ?_
              rotate_left
              · show Act.put _ (some 39) _ = _
                simp only [Act.put, List.setIfInBounds_toArray, List.set_cons_zero, List.set_cons_succ, i64_w, i32_w]
                rfl
              refine one_ (i := 5) (N := some 35) #[true, true, true, true, true, true, false, true, true, true, false, false, false, false, false, false] rfl rfl (by kernel_rfl) (by decide) (fun K hK => ?_)
              refine goes_ Tryz.func66 (by kernel_rfl) rfl #[.int .u8 b, .slice A34 5 5] (by rfl) rfl rfl (by (try simp only [List.map_toArray, List.map_cons, List.map_nil]); first | done | rfl) ?_
              with_reducible refine (pick_c b HPa.out HBB.out.1 HBB.out.2).mono ?_
              rintro e w35 ⟨s35, rfl, hs, hb⟩
              refine ⟨_, rfl, ?_⟩
              have HS35 := Lib.hid hs
              clear hs
              have HPa := Lib.hid (HPa.out.below hb)
              have HPb := Lib.hid (HPb.out.below hb)
              have HK := Lib.hid (HK.out.step hb)
              clear hb
              refine hK.out _ _ ⟨HK.out.bit.1, HK.out.bit.2, HK.out.c4.1⟩ (fun hHeld => ?_)
              clear hK K
              refine norm_ (a' := ?_) ?_ ?_
              rotate_left
              · show Act.put _ (some 35) _ = _
                simp only [Act.put, List.setIfInBounds_toArray, List.set_cons_zero, List.set_cons_succ, i64_w, i32_w]
                rfl
              refine one_ (i := 6) (N := some 36) #[true, true, true, true, true, true, true, true, true, true, false, false, false, false, false, false] rfl rfl (by kernel_rfl) (by decide) (fun K hK => ?_)
              refine goes_ Tryz.func16 (by kernel_rfl) rfl #[.string ⟨#[101, 109, 97, 105, 108]⟩, .string s35] (by rfl) rfl rfl (by (try simp only [List.map_toArray, List.map_cons, List.map_nil]); first | done | rfl) ?_
              with_reducible refine (el_c ⟨#[101, 109, 97, 105, 108]⟩ s35 _ (by decide) HS35.out).mono ?_
              rintro e w36 ⟨xm, vam, vbm, rfl, hme, hks, hb⟩
              refine ⟨_, rfl, ?_⟩
              obtain ⟨A3m, n3m, c3m, rfl⟩ := N_any hme.1
              obtain ⟨A4m, n4m, c4m, rfl⟩ := N_any hme.2
              have HEm := Lib.hid hme
              have HKEm := Lib.hid hks
              have HFRm : Hid (Fr _ _ _ _ _ _ _) := HK.out.fresh
              clear hme hks
              have HPa := Lib.hid (HPa.out.below hb)
              have HPb := Lib.hid (HPb.out.below hb)
              have HK := Lib.hid (HK.out.step hb)
              clear hb
              refine hK.out _ _ ⟨HK.out.bit.1, HK.out.bit.2, HK.out.c4.1⟩ (fun hHeld => ?_)
              clear hK K
              refine norm_ (a' := ?_) ?_ ?_
              rotate_left
              · show Act.put _ (some 36) _ = _
                simp only [Act.put, List.setIfInBounds_toArray, List.set_cons_zero, List.set_cons_succ, i64_w, i32_w]
                rfl
              exact norm_ (by simp only [putAll, Act.put, List.setIfInBounds_toArray, List.set_cons_zero, List.set_cons_succ]) (hCont (A34, s35, xm, .slice A3m n3m c3m, .slice A4m n4m c4m, A39) _ ⟨hHeld, HK.out, ⟨_, HEm.out, HFRm.out⟩, HKEm.out, HPb.out⟩)
          · skip
            refine lit_step ?hw (N := 39) ?hd (cs := #[.string ⟨#[]⟩, .string ⟨#[104, 116, 116, 112, 58, 47, 47, 97]⟩, .string ⟨#[37]⟩]) (n := 3) ?hr ?h1 ?h2 ?h3 ?h4 ?_
            (case hw => rfl)
            (case hd => rfl)
            (case hr => first | (go_simp; done) | (go_simp; rfl))
            (case h1 => rfl)
            (case h2 => decide)
            (case h3 => decide)
            (case h4 => rfl)
            intro A39 w39 hp hb
            have HPb := Lib.hid hp
            have HK := Lib.hid (HK.out.step hb)
            clear hb
            clear hp
            refine hK.out _ _ ⟨HK.out.bit.1, HK.out.bit.2, HK.out.c4.1⟩ (fun hHeld => ?_)
            clear hK K
            refine norm_ (a' := ?_) ?_ ?_
            rotate_left
            · show Act.put _ (some 39) _ = _
              simp only [Act.put, List.setIfInBounds_toArray, List.set_cons_zero, List.set_cons_succ, i64_w, i32_w]
              rfl
            refine one_ (i := 4) (N := some 34) #[true, true, true, true, true, false, false, true, true, true, false, false, false, false, false, false] rfl rfl (by kernel_rfl) (by decide) (fun K hK => ?_)
            refine lit_step ?hw (N := 34) ?hd (cs := #[.string ⟨#[97, 64, 98]⟩, .string ⟨#[64, 98]⟩, .string ⟨#[97, 64]⟩, .string ⟨#[97, 64, 98, 64, 99]⟩, .string ⟨#[120]⟩]) (n := 5) ?hr ?h1 ?h2 ?h3 ?h4 ?_
            (case hw => rfl)
            (case hd => rfl)
            (case hr => first | (go_simp; done) | (go_simp; rfl))
            (case h1 => rfl)
            (case h2 => decide)
            (case h3 => decide)
            (case h4 => rfl)
            intro A34 w34 hp hb
            have HPa := Lib.hid hp
            have HPb := Lib.hid (HPb.out.below hb)
            have HK := Lib.hid (HK.out.step hb)
            clear hb
            clear hp
            refine hK.out _ _ ⟨HK.out.bit.1, HK.out.bit.2, HK.out.c4.1⟩ (fun hHeld => ?_)
            clear hK K
            refine norm_ (a' := ?_) ?_ ?_
            rotate_left
            · show Act.put _ (some 34) _ = _
              simp only [Act.put, List.setIfInBounds_toArray, List.set_cons_zero, List.set_cons_succ, i64_w, i32_w]
              rfl
            refine one_ (i := 5) (N := some 35) #[true, true, true, true, true, true, false, true, true, true, false, false, false, false, false, false] rfl rfl (by kernel_rfl) (by decide) (fun K hK => ?_)
            refine goes_ Tryz.func66 (by kernel_rfl) rfl #[.int .u8 b, .slice A34 5 5] (by rfl) rfl rfl (by (try simp only [List.map_toArray, List.map_cons, List.map_nil]); first | done | rfl) ?_
            with_reducible refine (pick_c b HPa.out HBB.out.1 HBB.out.2).mono ?_
            rintro e w35 ⟨s35, rfl, hs, hb⟩
            refine ⟨_, rfl, ?_⟩
            have HS35 := Lib.hid hs
            clear hs
            have HPb := Lib.hid (HPb.out.below hb)
            have HPa := Lib.hid (HPa.out.below hb)
            have HK := Lib.hid (HK.out.step hb)
            clear hb
            refine hK.out _ _ ⟨HK.out.bit.1, HK.out.bit.2, HK.out.c4.1⟩ (fun hHeld => ?_)
            clear hK K
            refine norm_ (a' := ?_) ?_ ?_
            rotate_left
            · show Act.put _ (some 35) _ = _
              simp only [Act.put, List.setIfInBounds_toArray, List.set_cons_zero, List.set_cons_succ, i64_w, i32_w]
              rfl
            refine one_ (i := 6) (N := some 36) #[true, true, true, true, true, true, true, true, true, true, false, false, false, false, false, false] rfl rfl (by kernel_rfl) (by decide) (fun K hK => ?_)
            refine goes_ Tryz.func16 (by kernel_rfl) rfl #[.string ⟨#[101, 109, 97, 105, 108]⟩, .string s35] (by rfl) rfl rfl (by (try simp only [List.map_toArray, List.map_cons, List.map_nil]); first | done | rfl) ?_
            with_reducible refine (el_c ⟨#[101, 109, 97, 105, 108]⟩ s35 _ (by decide) HS35.out).mono ?_
            rintro e w36 ⟨xm, vam, vbm, rfl, hme, hks, hb⟩
            refine ⟨_, rfl, ?_⟩
            obtain ⟨A3m, n3m, c3m, rfl⟩ := N_any hme.1
            obtain ⟨A4m, n4m, c4m, rfl⟩ := N_any hme.2
            have HEm := Lib.hid hme
            have HKEm := Lib.hid hks
            have HFRm : Hid (Fr _ _ _ _ _ _ _) := HK.out.fresh
            clear hme hks
            have HPb := Lib.hid (HPb.out.below hb)
            have HPa := Lib.hid (HPa.out.below hb)
            have HK := Lib.hid (HK.out.step hb)
            clear hb
            refine hK.out _ _ ⟨HK.out.bit.1, HK.out.bit.2, HK.out.c4.1⟩ (fun hHeld => ?_)
            clear hK K
            refine norm_ (a' := ?_) ?_ ?_
            rotate_left
            · show Act.put _ (some 36) _ = _
              simp only [Act.put, List.setIfInBounds_toArray, List.set_cons_zero, List.set_cons_succ, i64_w, i32_w]
              rfl
            exact norm_ (by simp only [putAll, Act.put, List.setIfInBounds_toArray, List.set_cons_zero, List.set_cons_succ]) (hCont (A34, s35, xm, .slice A3m n3m c3m, .slice A4m n4m c4m, A39) _ ⟨hHeld, HK.out, ⟨_, HEm.out, HFRm.out⟩, HKEm.out, HPb.out⟩)
        rintro ⟨A34, s35, xm, vam, vbm, A39⟩ w39 ⟨hHeld, hk, ⟨lo, hem, hfm⟩, hkm, hpb⟩
        replace hem : MadeE lo w39 xm vam vbm := hem
        obtain ⟨A3m, n3m, c3m, rfl⟩ := N_any hem.1
        obtain ⟨A4m, n4m, c4m, rfl⟩ := N_any hem.2
        clear HK
        have HK := Lib.hid hk
        have HEm := Lib.hid hem
        have HFRm : Hid (Fr w g1 g2 g4 lo (.slice A3 n3 c3) (.slice A24 m24 k24)) := hfm
        have HKEm : Hid (KSm 1 xm) := hkm
        have HPb : Hid (PK A39 3 w39) := hpb
        clear hk hem hfm hkm hpb
        refine norm_ (a' := ?_) ?_ ?_
        rotate_left
        · simp only [putAll, Act.put, List.setIfInBounds_toArray, List.set_cons_zero, List.set_cons_succ]
          rfl
        refine one_ (i := 10) (N := some 40) #[true, true, true, true, true, true, true, true, true, true, true, false, false, false, false, false] rfl rfl (by kernel_rfl) (by decide) (fun K hK => ?_)
        refine goes_ Tryz.func66 (by kernel_rfl) rfl #[.int .u8 c, .slice A39 3 3] (by rfl) rfl rfl (by (try simp only [List.map_toArray, List.map_cons, List.map_nil]); first | done | rfl) ?_
        with_reducible refine (pick_c c HPb.out HCC.out.1 HCC.out.2).mono ?_
        rintro e w40 ⟨s40, rfl, hs, hb⟩
        refine ⟨_, rfl, ?_⟩
        have HS40 := Lib.hid hs
        clear hs
        have HEm := Lib.hid (HEm.out.below hb)
        have HPb := Lib.hid (HPb.out.below hb)
        have HK := Lib.hid (HK.out.step hb)
        clear hb
        refine hK.out _ _ ⟨HK.out.bit.1, HK.out.bit.2, HK.out.c4.1⟩ (fun hHeld => ?_)
        clear hK K
        refine norm_ (a' := ?_) ?_ ?_
        rotate_left
        · show Act.put _ (some 40) _ = _
          simp only [Act.put, List.setIfInBounds_toArray, List.set_cons_zero, List.set_cons_succ, i64_w, i32_w]
          rfl
        refine one_ (i := 11) (N := some 41) #[true, true, true, true, true, true, true, true, true, true, true, true, false, false, false, false] rfl rfl (by kernel_rfl) (by decide) (fun K hK => ?_)
        refine goes_ Tryz.func16 (by kernel_rfl) rfl #[.string ⟨#[117, 114, 105]⟩, .string s40] (by rfl) rfl rfl (by (try simp only [List.map_toArray, List.map_cons, List.map_nil]); first | done | rfl) ?_
        with_reducible refine (el_c ⟨#[117, 114, 105]⟩ s40 _ (by decide) HS40.out).mono ?_
        rintro e w41 ⟨xu, vau, vbu, rfl, hme, hks, hb⟩
        refine ⟨_, rfl, ?_⟩
        obtain ⟨A3u, n3u, c3u, rfl⟩ := N_any hme.1
        obtain ⟨A4u, n4u, c4u, rfl⟩ := N_any hme.2
        have HEu := Lib.hid hme
        have HKEu := Lib.hid hks
        have HFRu : Hid (Fr _ _ _ _ _ _ _) := HK.out.fresh
        clear hme hks
        have HEm := Lib.hid (HEm.out.below hb)
        have HPb := Lib.hid (HPb.out.below hb)
        have HK := Lib.hid (HK.out.step hb)
        clear hb
        refine hK.out _ _ ⟨HK.out.bit.1, HK.out.bit.2, HK.out.c4.1⟩ (fun hHeld => ?_)
        clear hK K
        refine norm_ (a' := ?_) ?_ ?_
        rotate_left
        · show Act.put _ (some 41) _ = _
          simp only [Act.put, List.setIfInBounds_toArray, List.set_cons_zero, List.set_cons_succ, i64_w, i32_w]
          rfl
        refine one_ (i := 12) (N := some 42) #[true, true, true, true, true, true, true, true, true, true, true, true, true, false, false, false] rfl rfl (by kernel_rfl) (by decide) (fun K hK => ?_)
        refine KI.nlit2_step HK.out HEm.out HEu.out HFRm.out HFRu.out ?hw (N := 42) ?hd ?hr ?_
        (case hw => rfl)
        (case hd => rfl)
        (case hr => first | (go_simp; done) | (go_simp; rfl))
        intro A42 k42 w42 hk hf
        clear HK
        have HK := Lib.hid hk
        have HN42 := Lib.hid hf
        clear hk hf HPb
        refine hK.out _ _ ⟨HK.out.bit.1, HK.out.bit.2, HK.out.c4.1⟩ (fun hHeld => ?_)
        clear hK K
        refine norm_ (a' := ?_) ?_ ?_
        rotate_left
        · show Act.put _ (some 42) _ = _
          simp only [Act.put, List.setIfInBounds_toArray, List.set_cons_zero, List.set_cons_succ, i64_w, i32_w]
          rfl
        refine one_ (i := 13) (N := some 43) #[true, true, true, true, true, true, true, true, true, true, true, true, true, true, false, false] rfl rfl (by kernel_rfl) (by decide) (fun K hK => ?_)
        refine Kd.N_append_rows_step k25 (w0 := w) w.heap.size (by rfl) _ _ 23 25 _ 104 rfl Tryz.underlying23 info25 (by rfl) (by decide) (by decide) (.slice A24 m24 k24) x5.f4 [xm, xu] A42 2 k42 _ _ rfl rfl HK.out.r4 HN42.out (fun _ hk => hk) (fun k hk => (HK.out.fresh k hk).1) HK.out.bw HK.out.bw.size (by have := HK.out.sm.n4; omega) ?_
        intro v1 w43 hn hb6 hg hat
        obtain ⟨A43, m43, k43, rfl⟩ := N_any hn
        have hbt := HK.out.bit4 (fun k hk hne => hg.block k hk hne)
        have hp4 := KI.put4 HK.out hn hb6 (fun k hk hne => hg.block k hk hne) (HK.out.sm.put4 _ 3 (by decide) (by rw [List.length_append]; have := HK.out.sm.n4; show _ + 2 ≤ 3; omega) (fun y hy => by rcases List.mem_append.1 hy with hy | hy; exact HK.out.sm.kd4 y hy; rcases List.mem_cons.1 hy with rfl | hy; exact HKEm.out.sm (by decide); rw [List.mem_singleton.1 hy]; exact HKEu.out.sm (by decide)))
        have hc4 := hp4.1.1
        have hf4 := hp4.1.2
        have HK := Lib.hid hp4.2
        clear hp4
        refine hK.out _ _ ⟨hbt.1, hbt.2, hc4⟩ (fun hHeld => ?_)
        clear hK K
        refine norm_ (a' := ?_) ?_ ?_
        rotate_left
        · show Act.put _ (some 43) _ = _
          simp only [Act.put, List.setIfInBounds_toArray, List.set_cons_zero, List.set_cons_succ, i64_w, i32_w]
          rfl
        refine pure_ (i := 14) (N := some 44) (v := ?_) (a' := ?_) #[true, true, true, true, true, true, true, true, true, true, true, true, true, true, true, false] rfl rfl (by kernel_rfl) (fun _ _ _ h => h) (Or.inl ⟨by rfl, ?_⟩) ?_ ?_
        rotate_left
        · intro w'
          go_simp
          with_reducible rfl
        rotate_left
        · simp only [Act.put, List.setIfInBounds_toArray, List.set_cons_zero, List.set_cons_succ, i64_w, i32_w]
          rfl
        refine last_ (i := 15) (N := none) #[true, true, true, true, true, true, true, true, true, true, true, true, true, true, true, true] rfl rfl (by kernel_rfl) (by decide) (fun K hK => ?_)
        refine skip_ (w1 := ?_) (by rfl) rfl ?_ ?_
        rotate_left
        · go_simp
          rfl
        refine hK.out _ _ ?_
        clear hK K
        refine done_ (by kernel_rfl) ?_
        generalize (w43.setCell ⟨g4, 4, none⟩ (.slice A43 m43 k43)) = w44 at HK ⊢
        clear hn hb6 hg hat hbt hc4 hf4 hHeld HN42 HEm HEu HFRm HFRu HKEm HKEu
        obtain ⟨z0, z1, z2, z3, z4, z5⟩ := HK.out.cells
        obtain ⟨y0, y1, y2, y3, y4, y5⟩ := box6 HK.out.b2
        have f0 := blk_frozen HK.out.b2 0
        have f1 := blk_frozen HK.out.b2 1
        have f2 := blk_frozen HK.out.b2 2
        have f3 := blk_frozen HK.out.b2 3
        have f4 := blk_frozen HK.out.b2 4
        have f5 := blk_frozen HK.out.b2 5
        go_wp2_with fail
        refine bodyPost_ret (results_cell_row rfl _ _ g2 25 _ (0, 0) _ rfl HK.out.blk2 Tryz.underlying25 rfl (by kernel_rfl)) rfl ?_
        exact ⟨_, _, _, _, _, _, _, rfl, HK.out.done.1, HK.out.sm.sm (by decide), HK.out.done.2⟩
      case false =>
        obtain ⟨z0, z1, z2, z3, z4, z5⟩ := HK.out.cells
        obtain ⟨y0, y1, y2, y3, y4, y5⟩ := box6 HK.out.b2
        have f0 := blk_frozen HK.out.b2 0
        have f1 := blk_frozen HK.out.b2 1
        have f2 := blk_frozen HK.out.b2 2
        have f3 := blk_frozen HK.out.b2 3
        have f4 := blk_frozen HK.out.b2 4
        have f5 := blk_frozen HK.out.b2 5
        go_wp2_with fail
        refine bodyPost_ret (results_cell_row rfl _ _ g2 25 _ (0, 0) _ rfl HK.out.blk2 Tryz.underlying25 rfl (by kernel_rfl)) rfl ?_
        exact ⟨_, _, _, _, _, _, _, rfl, HK.out.done.1, HK.out.sm.sm (by decide), HK.out.done.2⟩
    case false =>
      obtain ⟨d1, d2⟩ := HK.out.bit
      have n14 : g1 ≠ g4 := by have := HK.out.o2; have := HK.out.o4; omega
      go_upto_if 45 with fail
      cases hl : (nm.toList == ([108, 105, 110, 107] : List UInt8))
      case true =>
        clear d1 d2
        go_wp2_with fail
        have HK := Lib.hid (HK.out.step (below_drew (Below.refl _ _)))
        refine start_ (n := 12) (S := fun w' => w'.cell? ⟨g1, 1, none⟩ = some (.int .u8 b) ∧ w'.cell? ⟨g1, 2, none⟩ = some (.int .u8 c)) (ds := [11]) #[false, false, false, false, false, false, false, false, false, false, false, false] (by kernel_rfl) rfl rfl ⟨HK.out.bit.1, HK.out.bit.2⟩ (fun hHeld => ?_)
        generalize hwd_ : World.drew _ = w15 at HK hHeld ⊢
        clear hwd_
        refine pure_ (i := 0) (N := some 47) (v := ?_) (a' := ?_) #[true, false, false, false, false, false, false, false, false, false, false, false] rfl rfl (by kernel_rfl) (fun _ _ _ h => h) (Or.inl ⟨by rfl, ?_⟩) ?_ ?_
        rotate_left
        · intro w'
          go_simp
          with_reducible rfl
        rotate_left
        · simp only [Act.put, List.setIfInBounds_toArray, List.set_cons_zero, List.set_cons_succ, i64_w, i32_w]
          rfl
        refine pure_ (i := 4) (N := some 51) (v := ?_) (a' := ?_) #[true, false, false, false, true, false, false, false, false, false, false, false] rfl rfl (by kernel_rfl) (fun _ _ _ h => h) (Or.inl ⟨by rfl, ?_⟩) ?_ ?_
        rotate_left
        · intro w'
          go_simp
          with_reducible rfl
        rotate_left
        · simp only [Act.put, List.setIfInBounds_toArray, List.set_cons_zero, List.set_cons_succ, i64_w, i32_w]
          rfl
        refine take_ (i := 1) (N := some 48) (v := ?_) (a' := ?_) #[true, true, false, false, true, false, false, false, false, false, false, false] rfl rfl (by kernel_rfl) (fun _ _ _ h => h) (Or.inl ⟨by rfl, ?_⟩) hHeld ?_ ?_
        rotate_left
        · rintro w' ⟨s0, s1⟩
          go_simp
          with_reducible rfl
        rotate_left
        · simp only [Act.put, List.setIfInBounds_toArray, List.set_cons_zero, List.set_cons_succ, i64_w, i32_w]
          rfl
        refine take_ (i := 5) (N := some 52) (v := ?_) (a' := ?_) #[true, true, false, false, true, true, false, false, false, false, false, false] rfl rfl (by kernel_rfl) (fun _ _ _ h => h) (Or.inl ⟨by rfl, ?_⟩) hHeld ?_ ?_
        rotate_left
        · rintro w' ⟨s0, s1⟩
          go_simp
          with_reducible rfl
        rotate_left
        · simp only [Act.put, List.setIfInBounds_toArray, List.set_cons_zero, List.set_cons_succ, i64_w, i32_w]
          rfl
        refine join_ (σ := Option Addr × ByteArray × Option Addr) 5 #[true, true, true, true, true, true, true, false, false, false, false, false] (fun s_ => [(49, .slice s_.1 4 4), (50, .string s_.2.1), (53, .slice s_.2.2 4 4)]) (fun s_ w' => (w'.cell? ⟨g1, 1, none⟩ = some (.int .u8 b) ∧ w'.cell? ⟨g1, 2, none⟩ = some (.int .u8 c)) ∧ KI w w' g1 g2 g4 a b c 1 x (.slice A3 n3 c3) (.slice A4 n4 c4) ∧ s_.2.1.size ≤ 100 ∧ PK s_.2.2 4 w') ?_ ?_
        rotate_left
        · intro hCont
          refine two_ (i := 2) (j := 6) (Ni := some 49) (Nj := some 53) #[true, true, true, false, true, true, false, false, false, false, false, false] #[true, true, false, false, true, true, true, false, false, false, false, false] rfl rfl rfl rfl (by kernel_rfl) (by decide) (by decide) (fun K hK => ?_) (fun K hK => ?_)
          · skip
            refine lit_step ?hw (N := 49) ?hd (cs := #[.string ⟨#[104, 114, 101, 102]⟩, .string ⟨#[104, 114, 101, 102]⟩, .string ⟨#[104, 114, 101, 102]⟩, .string ⟨#[115, 114, 99]⟩]) (n := 4) ?hr ?h1 ?h2 ?h3 ?h4 ?_
            (case hw => rfl)
            (case hd => rfl)
            (case hr => first | (go_simp; done) | (go_simp; rfl))
            (case h1 => rfl)
            (case h2 => decide)
            (case h3 => decide)
            (case h4 => rfl)
            intro A49 w49 hp hb
            have HPa := Lib.hid hp
            have HK := Lib.hid (HK.out.step hb)
            clear hb
            clear hp
            refine hK.out _ _ ⟨HK.out.bit.1, HK.out.bit.2⟩ (fun hHeld => ?_)
            clear hK K
            refine norm_ (a' := ?_) ?_ ?_
            rotate_left
            · show Act.put _ (some 49) _ = _
              simp only [Act.put, List.setIfInBounds_toArray, List.set_cons_zero, List.set_cons_succ, i64_w, i32_w]
              rfl
            refine two_ (i := 3) (j := 6) (Ni := some 50) (Nj := some 53) #[true, true, true, true, true, true, false, false, false, false, false, false] #[true, true, true, false, true, true, true, false, false, false, false, false] rfl rfl rfl rfl (by kernel_rfl) (by decide) (by decide) (fun K hK => ?_) (fun K hK => ?_)
            · skip
              refine goes_ Tryz.func66 (by kernel_rfl) rfl #[.int .u8 b, .slice A49 4 4] (by rfl) rfl rfl (by (try simp only [List.map_toArray, List.map_cons, List.map_nil]); first | done | rfl) ?_
              with_reducible refine (pick_c b HPa.out HBB.out.1 HBB.out.2).mono ?_
              rintro e w50 ⟨s50, rfl, hs, hb⟩
              refine ⟨_, rfl, ?_⟩
              have HS50 := Lib.hid hs
              clear hs
              have HPa := Lib.hid (HPa.out.below hb)
              have HK := Lib.hid (HK.out.step hb)
              clear hb
              refine hK.out _ _ ⟨HK.out.bit.1, HK.out.bit.2⟩ (fun hHeld => ?_)
              clear hK K
              refine norm_ (a' := ?_) ?_ ?_
              rotate_left
              · show Act.put _ (some 50) _ = _
                simp only [Act.put, List.setIfInBounds_toArray, List.set_cons_zero, List.set_cons_succ, i64_w, i32_w]
                rfl
              refine one_ (i := 6) (N := some 53) #[true, true, true, true, true, true, true, false, false, false, false, false] rfl rfl (by kernel_rfl) (by decide) (fun K hK => ?_)
              refine lit_step ?hw (N := 53) ?hd (cs := #[.string ⟨#[97]⟩, .string ⟨#[104, 116, 116, 112, 58, 47, 47, 97]⟩, .string ⟨#[97]⟩, .string ⟨#[37]⟩]) (n := 4) ?hr ?h1 ?h2 ?h3 ?h4 ?_
              (case hw => rfl)
              (case hd => rfl)
              (case hr => first | (go_simp; done) | (go_simp; rfl))
              (case h1 => rfl)
              (case h2 => decide)
              (case h3 => decide)
              (case h4 => rfl)
              intro A53 w53 hp hb
              have HPb := Lib.hid hp
              have HPa := Lib.hid (HPa.out.below hb)
              have HK := Lib.hid (HK.out.step hb)
              clear hb
              clear hp
              refine hK.out _ _ ⟨HK.out.bit.1, HK.out.bit.2⟩ (fun hHeld => ?_)
              clear hK K
              refine norm_ (a' := ?_) ?_ ?_
              rotate_left
              · show Act.put _ (some 53) _ = _
                simp only [Act.put, List.setIfInBounds_toArray, List.set_cons_zero, List.set_cons_succ, i64_w, i32_w]
                rfl
              exact norm_ (by simp only [putAll, Act.put, List.setIfInBounds_toArray, List.set_cons_zero, List.set_cons_succ]) (hCont (A49, s50, A53) _ ⟨hHeld, HK.out, HS50.out, HPb.out⟩)
            · skip
              refine lit_step ?hw (N := 53) ?hd (cs := #[.string ⟨#[97]⟩, .string ⟨#[104, 116, 116, 112, 58, 47, 47, 97]⟩, .string ⟨#[97]⟩, .string ⟨#[37]⟩]) (n := 4) ?hr ?h1 ?h2 ?h3 ?h4 ?_
              (case hw => rfl)
              (case hd => rfl)
              (case hr => first | (go_simp; done) | (go_simp; rfl))
              (case h1 => rfl)
              (case h2 => decide)
              (case h3 => decide)
              (case h4 => rfl)
              intro A53 w53 hp hb
              have HPb := Lib.hid hp
              have HPa := Lib.hid (HPa.out.below hb)
              have HK := Lib.hid (HK.out.step hb)
              clear hb
              clear hp
              refine hK.out _ _ ⟨HK.out.bit.1, HK.out.bit.2⟩ (fun hHeld => ?_)
              clear hK K
              refine norm_ (a' := ?_) ?_ ?_
              rotate_left
              · show Act.put _ (some 53) _ = _
                simp only [Act.put, List.setIfInBounds_toArray, List.set_cons_zero, List.set_cons_succ, i64_w, i32_w]
                rfl
              refine one_ (i := 3) (N := some 50) #[true, true, true, true, true, true, true, false, false, false, false, false] rfl rfl (by kernel_rfl) (by decide) (fun K hK => ?_)
              refine goes_ Tryz.func66 (by kernel_rfl) rfl #[.int .u8 b, .slice A49 4 4] (by rfl) rfl rfl (by (try simp only [List.map_toArray, List.map_cons, List.map_nil]); first | done | rfl) ?_
              with_reducible refine (pick_c b HPa.out HBB.out.1 HBB.out.2).mono ?_
              rintro e w50 ⟨s50, rfl, hs, hb⟩
              refine ⟨_, rfl, ?_⟩
              have HS50 := Lib.hid hs
              clear hs
              have HPa := Lib.hid (HPa.out.below hb)
              have HPb := Lib.hid (HPb.out.below hb)
              have HK := Lib.hid (HK.out.step hb)
              clear hb
              refine hK.out _ _ ⟨HK.out.bit.1, HK.out.bit.2⟩ (fun hHeld => ?_)
              clear hK K
              refine norm_ (a' := ?_) ?_ ?_
              rotate_left
              · show Act.put _ (some 50) _ = _
                simp only [Act.put, List.setIfInBounds_toArray, List.set_cons_zero, List.set_cons_succ, i64_w, i32_w]
                rfl
              exact norm_ (by simp only [putAll, Act.put, List.setIfInBounds_toArray, List.set_cons_zero, List.set_cons_succ]) (hCont (A49, s50, A53) _ ⟨hHeld, HK.out, HS50.out, HPb.out⟩)
          · skip
            refine lit_step ?hw (N := 53) ?hd (cs := #[.string ⟨#[97]⟩, .string ⟨#[104, 116, 116, 112, 58, 47, 47, 97]⟩, .string ⟨#[97]⟩, .string ⟨#[37]⟩]) (n := 4) ?hr ?h1 ?h2 ?h3 ?h4 ?_
            (case hw => rfl)
            (case hd => rfl)
            (case hr => first | (go_simp; done) | (go_simp; rfl))
            (case h1 => rfl)
            (case h2 => decide)
            (case h3 => decide)
            (case h4 => rfl)
            intro A53 w53 hp hb
            have HPb := Lib.hid hp
            have HK := Lib.hid (HK.out.step hb)
            clear hb
            clear hp
            refine hK.out _ _ ⟨HK.out.bit.1, HK.out.bit.2⟩ (fun hHeld => ?_)
            clear hK K
            refine norm_ (a' := ?_) ?_ ?_
            rotate_left
            · show Act.put _ (some 53) _ = _
              simp only [Act.put, List.setIfInBounds_toArray, List.set_cons_zero, List.set_cons_succ, i64_w, i32_w]
              rfl
            refine one_ (i := 2) (N := some 49) #[true, true, true, false, true, true, true, false, false, false, false, false] rfl rfl (by kernel_rfl) (by decide) (fun K hK => ?_)
            refine lit_step ?hw (N := 49) ?hd (cs := #[.string ⟨#[104, 114, 101, 102]⟩, .string ⟨#[104, 114, 101, 102]⟩, .string ⟨#[104, 114, 101, 102]⟩, .string ⟨#[115, 114, 99]⟩]) (n := 4) ?hr ?h1 ?h2 ?h3 ?h4 ?_
            (case hw => rfl)
            (case hd => rfl)
            (case hr => first | (go_simp; done) | (go_simp; rfl))
            (case h1 => rfl)
            (case h2 => decide)
            (case h3 => decide)
            (case h4 => rfl)
            intro A49 w49 hp hb
            have HPa := Lib.hid hp
            have HPb := Lib.hid (HPb.out.below hb)
            have HK := Lib.hid (HK.out.step hb)
            clear hb
            clear hp
            refine hK.out _ _ ⟨HK.out.bit.1, HK.out.bit.2⟩ (fun hHeld => ?_)
            clear hK K
            refine norm_ (a' := ?_) ?_ ?_
            rotate_left
            · show Act.put _ (some 49) _ = _
              simp only [Act.put, List.setIfInBounds_toArray, List.set_cons_zero, List.set_cons_succ, i64_w, i32_w]
              rfl
            refine one_ (i := 3) (N := some 50) #[true, true, true, true, true, true, true, false, false, false, false, false] rfl rfl (by kernel_rfl) (by decide) (fun K hK => ?_)
            refine goes_ Tryz.func66 (by kernel_rfl) rfl #[.int .u8 b, .slice A49 4 4] (by rfl) rfl rfl (by (try simp only [List.map_toArray, List.map_cons, List.map_nil]); first | done | rfl) ?_
            with_reducible refine (pick_c b HPa.out HBB.out.1 HBB.out.2).mono ?_
            rintro e w50 ⟨s50, rfl, hs, hb⟩
            refine ⟨_, rfl, ?_⟩
            have HS50 := Lib.hid hs
            clear hs
            have HPb := Lib.hid (HPb.out.below hb)
            have HPa := Lib.hid (HPa.out.below hb)
            have HK := Lib.hid (HK.out.step hb)
            clear hb
            refine hK.out _ _ ⟨HK.out.bit.1, HK.out.bit.2⟩ (fun hHeld => ?_)
            clear hK K
            refine norm_ (a' := ?_) ?_ ?_
            rotate_left
            · show Act.put _ (some 50) _ = _
              simp only [Act.put, List.setIfInBounds_toArray, List.set_cons_zero, List.set_cons_succ, i64_w, i32_w]
              rfl
            exact norm_ (by simp only [putAll, Act.put, List.setIfInBounds_toArray, List.set_cons_zero, List.set_cons_succ]) (hCont (A49, s50, A53) _ ⟨hHeld, HK.out, HS50.out, HPb.out⟩)
        rintro ⟨A49, s50, A53⟩ w53 ⟨hHeld, hk, hs50, hpb⟩
        clear HK
        have HK := Lib.hid hk
        have HS50 : Hid (s50.size ≤ 100) := hs50
        have HPb : Hid (PK A53 4 w53) := hpb
        clear hk hs50 hpb
        refine norm_ (a' := ?_) ?_ ?_
        rotate_left
        · simp only [putAll, Act.put, List.setIfInBounds_toArray, List.set_cons_zero, List.set_cons_succ]
          rfl
        refine one_ (i := 7) (N := some 54) #[true, true, true, true, true, true, true, true, false, false, false, false] rfl rfl (by kernel_rfl) (by decide) (fun K hK => ?_)
        refine goes_ Tryz.func66 (by kernel_rfl) rfl #[.int .u8 c, .slice A53 4 4] (by rfl) rfl rfl (by (try simp only [List.map_toArray, List.map_cons, List.map_nil]); first | done | rfl) ?_
        with_reducible refine (pick_c c HPb.out HCC.out.1 HCC.out.2).mono ?_
        rintro e w54 ⟨s54, rfl, hs, hb⟩
        refine ⟨_, rfl, ?_⟩
        have HS54 := Lib.hid hs
        clear hs
        have HK := Lib.hid (HK.out.step hb)
        clear hb
        refine hK.out _ _ ⟨HK.out.bit.1, HK.out.bit.2⟩ (fun hHeld => ?_)
        clear hK K
        refine norm_ (a' := ?_) ?_ ?_
        rotate_left
        · show Act.put _ (some 54) _ = _
          simp only [Act.put, List.setIfInBounds_toArray, List.set_cons_zero, List.set_cons_succ, i64_w, i32_w]
          rfl
        refine pure_ (i := 8) (N := some 55) (v := ?_) (a' := ?_) #[true, true, true, true, true, true, true, true, true, false, false, false] rfl rfl (by kernel_rfl) (fun _ _ _ h => h) (Or.inl ⟨by rfl, ?_⟩) ?_ ?_
        rotate_left
        · intro w'
          go_simp
          with_reducible rfl
        rotate_left
        · simp only [Act.put, List.setIfInBounds_toArray, List.set_cons_zero, List.set_cons_succ, i64_w, i32_w]
          rfl
        refine one_ (i := 9) (N := some 56) #[true, true, true, true, true, true, true, true, true, true, false, false] rfl rfl (by kernel_rfl) (by decide) (fun K hK => ?_)
        refine KI.alit_step (ya := ⟨⟨#[]⟩, s50, s54⟩) HK.out ?hw (N := 56) ?hd ?hr ?_
        (case hw => rfl)
        (case hd => rfl)
        (case hr => first | (go_simp; done) | (go_simp; rfl))
        intro A56 m56 k56 w56 hk hn hv hmv
        have hbt := hk.bit
        have hp3 := KI.put3 HK.out hn hk.bw hmv hv (HK.out.sm.put3 _ 1 (by decide) (Nat.le_refl _) (fun y hy => by rw [List.mem_singleton.1 hy]; exact ⟨Nat.zero_le _, HS50.out, HS54.out⟩))
        have hc3 := hp3.1.1
        have hf3 := hp3.1.2
        have HK9 := Lib.hid hp3.2
        clear hp3
        clear HK
        have HK := HK9
        clear HK9
        refine hK.out _ _ ⟨hbt.1, hbt.2⟩ (fun hHeld => ?_)
        clear hK K
        refine norm_ (a' := ?_) ?_ ?_
        rotate_left
        · show Act.put _ (some 56) _ = _
          simp only [Act.put, List.setIfInBounds_toArray, List.set_cons_zero, List.set_cons_succ, i64_w, i32_w]
          rfl
        refine pure_ (i := 10) (N := some 57) (v := ?_) (a' := ?_) #[true, true, true, true, true, true, true, true, true, true, true, false] rfl rfl (by kernel_rfl) (fun _ _ _ h => h) (Or.inl ⟨by rfl, ?_⟩) ?_ ?_
        rotate_left
        · intro w'
          go_simp
          with_reducible rfl
        rotate_left
        · simp only [Act.put, List.setIfInBounds_toArray, List.set_cons_zero, List.set_cons_succ, i64_w, i32_w]
          rfl
        refine last_ (i := 11) (N := none) #[true, true, true, true, true, true, true, true, true, true, true, true] rfl rfl (by kernel_rfl) (by decide) (fun K hK => ?_)
        refine skip_ (w1 := ?_) (by rfl) rfl ?_ ?_
        rotate_left
        · go_simp
          rfl
        refine hK.out _ _ ?_
        clear hK K
        refine done_ (by kernel_rfl) ?_
        generalize (w56.setCell ⟨g4, 3, none⟩ (.slice A56 m56 k56)) = w57 at HK ⊢
        clear hn hv hmv hbt hc3 hf3 hHeld HPb HS50 HS54 n14
        clear hk
        obtain ⟨x6, hx6⟩ : ∃ x6, x6 = (⟨x.f0, x.f1, x.f2, [⟨⟨#[]⟩, s50, s54⟩], x.f4, x.f5⟩ : S25) := ⟨_, rfl⟩
        rw [← hx6] at HK
        clear hx6
        obtain ⟨d1, d2⟩ := HK.out.bit
        go_upto_if 61 with fail
        clear d1 d2
        go_cut [] (fun wc => ∃ y A n c', KI w wc g1 g2 g4 a b c 2 y (.slice A n c') (.slice A4 n4 c4))
        case first =>
          cases hq : (Int.tmod c 2 == 0)
          case true =>
            go_wp2_with fail
            have HK := Lib.hid (HK.out.step (below_drew (Below.refl _ _)))
            refine start_ (n := 11) (S := fun w' => w'.cell? ⟨g1, 1, none⟩ = some (.int .u8 b) ∧ w'.cell? ⟨g1, 2, none⟩ = some (.int .u8 c) ∧ w'.cell? ⟨g4, 3, none⟩ = some (.slice A56 m56 k56)) (ds := [10]) #[false, false, false, false, false, false, false, false, false, false, false] (by kernel_rfl) rfl rfl ⟨HK.out.bit.1, HK.out.bit.2, HK.out.c3.1⟩ (fun hHeld => ?_)
            generalize hwd_ : World.drew _ = w58 at HK hHeld ⊢
            clear hwd_
            refine pure_ (i := 0) (N := some 62) (v := ?_) (a' := ?_) #[true, false, false, false, false, false, false, false, false, false, false] rfl rfl (by kernel_rfl) (fun _ _ _ h => h) (Or.inl ⟨by rfl, ?_⟩) ?_ ?_
            rotate_left
            · intro w'
              go_simp
              with_reducible rfl
            rotate_left
            · simp only [Act.put, List.setIfInBounds_toArray, List.set_cons_zero, List.set_cons_succ, i64_w, i32_w]
              rfl
            refine pure_ (i := 2) (N := some 64) (v := ?_) (a' := ?_) #[true, false, true, false, false, false, false, false, false, false, false] rfl rfl (by kernel_rfl) (fun _ _ _ h => h) (Or.inl ⟨by rfl, ?_⟩) ?_ ?_
            rotate_left
            · intro w'
              go_simp
              with_reducible rfl
            rotate_left
            · simp only [Act.put, List.setIfInBounds_toArray, List.set_cons_zero, List.set_cons_succ, i64_w, i32_w]
              rfl
            refine take_ (i := 1) (N := some 63) (v := ?_) (a' := ?_) #[true, true, true, false, false, false, false, false, false, false, false] rfl rfl (by kernel_rfl) (fun _ _ _ h => h) (Or.inl ⟨by rfl, ?_⟩) hHeld ?_ ?_
            rotate_left
            · rintro w' ⟨s0, s1, s2⟩
              go_simp
              with_reducible rfl
            rotate_left
            · simp only [Act.put, List.setIfInBounds_toArray, List.set_cons_zero, List.set_cons_succ, i64_w, i32_w]
              rfl
            refine take_ (i := 3) (N := some 65) (v := ?_) (a' := ?_) #[true, true, true, true, false, false, false, false, false, false, false] rfl rfl (by kernel_rfl) (fun _ _ _ h => h) (Or.inl ⟨by rfl, ?_⟩) hHeld ?_ ?_
            rotate_left
            · rintro w' ⟨s0, s1, s2⟩
              go_simp
              with_reducible rfl
            rotate_left
            · simp only [Act.put, List.setIfInBounds_toArray, List.set_cons_zero, List.set_cons_succ, i64_w, i32_w]
              rfl
            refine one_ (i := 4) (N := some 66) #[true, true, true, true, true, false, false, false, false, false, false] rfl rfl (by kernel_rfl) (by decide) (fun K hK => ?_)
            refine lit_step ?hw (N := 66) ?hd (cs := #[.string ⟨#[97, 108, 116, 101, 114, 110, 97, 116, 101]⟩, .string ⟨#[115, 101, 108, 102]⟩, .string ⟨#[101, 100, 105, 116]⟩]) (n := 3) ?hr ?h1 ?h2 ?h3 ?h4 ?_
            (case hw => rfl)
            (case hd => rfl)
            (case hr => first | (go_simp; done) | (go_simp; rfl))
            (case h1 => rfl)
            (case h2 => decide)
            (case h3 => decide)
            (case h4 => rfl)
            intro A66 w66 hp hb
            have HPc := Lib.hid hp
            have HK := Lib.hid (HK.out.step hb)
            clear hb
            clear hp
            refine hK.out _ _ ⟨HK.out.bit.1, HK.out.bit.2, HK.out.c3.1⟩ (fun hHeld => ?_)
            clear hK K
            refine norm_ (a' := ?_) ?_ ?_
            rotate_left
            · show Act.put _ (some 66) _ = _
              simp only [Act.put, List.setIfInBounds_toArray, List.set_cons_zero, List.set_cons_succ, i64_w, i32_w]
              rfl
            refine one_ (i := 5) (N := some 67) #[true, true, true, true, true, true, false, false, false, false, false] rfl rfl (by kernel_rfl) (by decide) (fun K hK => ?_)
            refine goes_ Tryz.func66 (by kernel_rfl) rfl #[.int .u8 b, .slice A66 3 3] (by rfl) rfl rfl (by (try simp only [List.map_toArray, List.map_cons, List.map_nil]); first | done | rfl) ?_
            with_reducible refine (pick_c b HPc.out HBB.out.1 HBB.out.2).mono ?_
            rintro e w67 ⟨s67, rfl, hs, hb⟩
            refine ⟨_, rfl, ?_⟩
            have HS67 := Lib.hid hs
            clear hs
            have HPc := Lib.hid (HPc.out.below hb)
            have HK := Lib.hid (HK.out.step hb)
            clear hb
            refine hK.out _ _ ⟨HK.out.bit.1, HK.out.bit.2, HK.out.c3.1⟩ (fun hHeld => ?_)
            clear hK K
            refine norm_ (a' := ?_) ?_ ?_
            rotate_left
            · show Act.put _ (some 67) _ = _
              simp only [Act.put, List.setIfInBounds_toArray, List.set_cons_zero, List.set_cons_succ, i64_w, i32_w]
              rfl
            refine pure_ (i := 6) (N := some 68) (v := ?_) (a' := ?_) #[true, true, true, true, true, true, true, false, false, false, false] rfl rfl (by kernel_rfl) (fun _ _ _ h => h) (Or.inl ⟨by rfl, ?_⟩) ?_ ?_
            rotate_left
            · intro w'
              go_simp
              with_reducible rfl
            rotate_left
            · simp only [Act.put, List.setIfInBounds_toArray, List.set_cons_zero, List.set_cons_succ, i64_w, i32_w]
              rfl
            refine one_ (i := 7) (N := some 69) #[true, true, true, true, true, true, true, true, false, false, false] rfl rfl (by kernel_rfl) (by decide) (fun K hK => ?_)
            refine KI.alit1_step (ya := ⟨⟨#[]⟩, ⟨#[114, 101, 108]⟩, s67⟩) HK.out ?hw (N := 69) ?hd ?hr ?_
            (case hw => rfl)
            (case hd => rfl)
            (case hr => first | (go_simp; done) | (go_simp; rfl))
            intro A69 k69 w69 hk hf
            clear HK
            have HK := Lib.hid hk
            have HF := Lib.hid hf
            clear hk hf
            refine hK.out _ _ ⟨HK.out.bit.1, HK.out.bit.2, HK.out.c3.1⟩ (fun hHeld => ?_)
            clear hK K
            refine norm_ (a' := ?_) ?_ ?_
            rotate_left
            · show Act.put _ (some 69) _ = _
              simp only [Act.put, List.setIfInBounds_toArray, List.set_cons_zero, List.set_cons_succ, i64_w, i32_w]
              rfl
            refine one_ (i := 8) (N := some 70) #[true, true, true, true, true, true, true, true, true, false, false] rfl rfl (by kernel_rfl) (by decide) (fun K hK => ?_)
            refine Kd.N_append_rows_step k41 (w0 := w) w.heap.size (by rfl) _ _ 22 41 _ 48 rfl Tryz.underlying22 info41 (by rfl) (by decide) (by decide) (.slice A56 m56 k56) x6.f3 [_] A69 1 k69 _ _ rfl rfl HK.out.r3 HF.out (fun _ hk => hk) (fun k hk => (HK.out.fresh k hk).1.1) HK.out.bw HK.out.bw.size (by have := HK.out.sm.n3; omega) ?_
            intro v1 w70 hn hb6 hg hat
            obtain ⟨A70, m70, k70, rfl⟩ := N_any hn
            have hbt := HK.out.bit3 (fun k hk hne => hg.block k hk hne)
            have hp3 := KI.put3 HK.out hn hb6 (fun k hk hne => hg.block k hk hne) hat (HK.out.sm.put3 _ 2 (by decide) (by rw [List.length_append]; have := HK.out.sm.n3; show _ + 1 ≤ 2; omega) (fun y hy => by rcases List.mem_append.1 hy with hy | hy; exact HK.out.sm.at3 y hy; rw [List.mem_singleton.1 hy]; exact ⟨Nat.zero_le _, (by decide : (⟨#[114, 101, 108]⟩ : ByteArray).size ≤ 100), HS67.out⟩))
            have hc3 := hp3.1.1
            have hf3 := hp3.1.2
            have HK := Lib.hid hp3.2
            clear hp3
            refine hK.out _ _ ⟨hbt.1, hbt.2, hc3⟩ (fun hHeld => ?_)
            clear hK K
            refine norm_ (a' := ?_) ?_ ?_
            rotate_left
            · show Act.put _ (some 70) _ = _
              simp only [Act.put, List.setIfInBounds_toArray, List.set_cons_zero, List.set_cons_succ, i64_w, i32_w]
              rfl
            refine pure_ (i := 9) (N := some 71) (v := ?_) (a' := ?_) #[true, true, true, true, true, true, true, true, true, true, false] rfl rfl (by kernel_rfl) (fun _ _ _ h => h) (Or.inl ⟨by rfl, ?_⟩) ?_ ?_
            rotate_left
            · intro w'
              go_simp
              with_reducible rfl
            rotate_left
            · simp only [Act.put, List.setIfInBounds_toArray, List.set_cons_zero, List.set_cons_succ, i64_w, i32_w]
              rfl
            refine last_ (i := 10) (N := none) #[true, true, true, true, true, true, true, true, true, true, true] rfl rfl (by kernel_rfl) (by decide) (fun K hK => ?_)
            refine skip_ (w1 := ?_) (by rfl) rfl ?_ ?_
            rotate_left
            · go_simp
              rfl
            refine hK.out _ _ ?_
            clear hK K
            refine done_ (by kernel_rfl) ?_
            generalize (w70.setCell ⟨g4, 3, none⟩ (.slice A70 m70 k70)) = w71 at HK ⊢
            go_wp2_with fail
            go_meet
            case rel => exact ⟨_, _, _, _, HK.out⟩
          case false =>
            go_wp2_with fail
            go_meet
            case rel => exact ⟨_, _, _, _, KI_le HK.out (by decide)⟩
        case rest =>
          clear HK
          obtain ⟨y, A61, n61, k61, hk⟩ := hcut
          have HK := Lib.hid hk
          clear hk
          obtain ⟨d1, d2⟩ := HK.out.bit
          go_upto_if 75 with fail
          clear d1 d2
          cases hq : (Int.tmod b 3 == 0)
          case false =>
            obtain ⟨z0, z1, z2, z3, z4, z5⟩ := HK.out.cells
            obtain ⟨y0, y1, y2, y3, y4, y5⟩ := box6 HK.out.b2
            have f0 := blk_frozen HK.out.b2 0
            have f1 := blk_frozen HK.out.b2 1
            have f2 := blk_frozen HK.out.b2 2
            have f3 := blk_frozen HK.out.b2 3
            have f4 := blk_frozen HK.out.b2 4
            have f5 := blk_frozen HK.out.b2 5
            go_wp2_with fail
            refine bodyPost_ret (results_cell_row rfl _ _ g2 25 _ (0, 0) _ rfl HK.out.blk2 Tryz.underlying25 rfl (by kernel_rfl)) rfl ?_
            exact ⟨_, _, _, _, _, _, _, rfl, HK.out.done.1, HK.out.sm.sm (by decide), HK.out.done.2⟩
          case true =>
            go_wp2_with fail
            have HK := Lib.hid (HK.out.step (below_drew (Below.refl _ _)))
            refine start_ (n := 15) (S := fun w' => w'.cell? ⟨g1, 1, none⟩ = some (.int .u8 b) ∧ w'.cell? ⟨g1, 2, none⟩ = some (.int .u8 c) ∧ w'.cell? ⟨g4, 3, none⟩ = some (.slice A61 n61 k61)) (ds := [14]) #[false, false, false, false, false, false, false, false, false, false, false, false, false, false, false] (by kernel_rfl) rfl rfl ⟨HK.out.bit.1, HK.out.bit.2, HK.out.c3.1⟩ (fun hHeld => ?_)
            generalize hwd_ : World.drew _ = w72 at HK hHeld ⊢
            clear hwd_
            refine pure_ (i := 0) (N := some 76) (v := ?_) (a' := ?_) #[true, false, false, false, false, false, false, false, false, false, false, false, false, false, false] rfl rfl (by kernel_rfl) (fun _ _ _ h => h) (Or.inl ⟨by rfl, ?_⟩) ?_ ?_
            rotate_left
            · intro w'
              go_simp
              with_reducible rfl
            rotate_left
            · simp only [Act.put, List.setIfInBounds_toArray, List.set_cons_zero, List.set_cons_succ, i64_w, i32_w]
              rfl
            refine pure_ (i := 2) (N := some 78) (v := ?_) (a' := ?_) #[true, false, true, false, false, false, false, false, false, false, false, false, false, false, false] rfl rfl (by kernel_rfl) (fun _ _ _ h => h) (Or.inl ⟨by rfl, ?_⟩) ?_ ?_
            rotate_left
            · intro w'
              go_simp
              with_reducible rfl
            rotate_left
            · simp only [Act.put, List.setIfInBounds_toArray, List.set_cons_zero, List.set_cons_succ, i64_w, i32_w]
              rfl
            refine pure_ (i := 6) (N := some 82) (v := ?_) (a' := ?_) #[true, false, true, false, false, false, true, false, false, false, false, false, false, false, false] rfl rfl (by kernel_rfl) (fun _ _ _ h => h) (Or.inl ⟨by rfl, ?_⟩) ?_ ?_
            rotate_left
            · intro w'
              go_simp
              with_reducible rfl
            rotate_left
            · simp only [Act.put, List.setIfInBounds_toArray, List.set_cons_zero, List.set_cons_succ, i64_w, i32_w]
              rfl
            refine take_ (i := 1) (N := some 77) (v := ?_) (a' := ?_) #[true, true, true, false, false, false, true, false, false, false, false, false, false, false, false] rfl rfl (by kernel_rfl) (fun _ _ _ h => h) (Or.inl ⟨by rfl, ?_⟩) hHeld ?_ ?_
            rotate_left
            · rintro w' ⟨s0, s1, s2⟩
              go_simp
              with_reducible rfl
            rotate_left
            · simp only [Act.put, List.setIfInBounds_toArray, List.set_cons_zero, List.set_cons_succ, i64_w, i32_w]
              rfl
            refine take_ (i := 3) (N := some 79) (v := ?_) (a' := ?_) #[true, true, true, true, false, false, true, false, false, false, false, false, false, false, false] rfl rfl (by kernel_rfl) (fun _ _ _ h => h) (Or.inl ⟨by rfl, ?_⟩) hHeld ?_ ?_
            rotate_left
            · rintro w' ⟨s0, s1, s2⟩
              go_simp
              with_reducible rfl
            rotate_left
            · simp only [Act.put, List.setIfInBounds_toArray, List.set_cons_zero, List.set_cons_succ, i64_w, i32_w]
              rfl
            refine take_ (i := 7) (N := some 83) (v := ?_) (a' := ?_) #[true, true, true, true, false, false, true, true, false, false, false, false, false, false, false] rfl rfl (by kernel_rfl) (fun _ _ _ h => h) (Or.inl ⟨by rfl, ?_⟩) hHeld ?_ ?_
            rotate_left
            · rintro w' ⟨s0, s1, s2⟩
              go_simp
              with_reducible rfl
            rotate_left
            · simp only [Act.put, List.setIfInBounds_toArray, List.set_cons_zero, List.set_cons_succ, i64_w, i32_w]
              rfl
            refine join_ (σ := Option Addr × ByteArray × Option Addr) 6 #[true, true, true, true, true, true, true, true, true, false, false, false, false, false, false] (fun s_ => [(80, .slice s_.1 2 2), (81, .string s_.2.1), (84, .slice s_.2.2 4 4)]) (fun s_ w' => (w'.cell? ⟨g1, 1, none⟩ = some (.int .u8 b) ∧ w'.cell? ⟨g1, 2, none⟩ = some (.int .u8 c) ∧ w'.cell? ⟨g4, 3, none⟩ = some (.slice A61 n61 k61)) ∧ KI w w' g1 g2 g4 a b c 2 y (.slice A61 n61 k61) (.slice A4 n4 c4) ∧ s_.2.1.size ≤ 100 ∧ PK s_.2.2 4 w') ?_ ?_
            rotate_left
            · intro hCont
              refine two_ (i := 4) (j := 8) (Ni := some 80) (Nj := some 84) #[true, true, true, true, true, false, true, true, false, false, false, false, false, false, false] #[true, true, true, true, false, false, true, true, true, false, false, false, false, false, false] rfl rfl rfl rfl (by kernel_rfl) (by decide) (by decide) (fun K hK => ?_) (fun K hK => ?_)
              · skip
                refine lit_step ?hw (N := 80) ?hd (cs := #[.string ⟨#[116, 121, 112, 101]⟩, .string ⟨#[104, 114, 101, 102, 108, 97, 110, 103]⟩]) (n := 2) ?hr ?h1 ?h2 ?h3 ?h4 ?_
                (case hw => rfl)
                (case hd => rfl)
                (case hr => first | (go_simp; done) | (go_simp; rfl))
                (case h1 => rfl)
                (case h2 => decide)
                (case h3 => decide)
                (case h4 => rfl)
                intro A80 w80 hp hb
                have HPa := Lib.hid hp
                have HK := Lib.hid (HK.out.step hb)
                clear hb
                clear hp
                refine hK.out _ _ ⟨HK.out.bit.1, HK.out.bit.2, HK.out.c3.1⟩ (fun hHeld => ?_)
                clear hK K
                refine norm_ (a' := ?_) ?_ ?_
                rotate_left
                · show Act.put _ (some 80) _ = _
                  simp only [Act.put, List.setIfInBounds_toArray, List.set_cons_zero, List.set_cons_succ, i64_w, i32_w]
                  rfl
                refine two_ (i := 5) (j := 8) (Ni := some 81) (Nj := some 84) #[true, true, true, true, true, true, true, true, false, false, false, false, false, false, false] #[true, true, true, true, true, false, true, true, true, false, false, false, false, false, false] rfl rfl rfl rfl (by kernel_rfl) (by decide) (by decide) (fun K hK => ?_) (fun K hK => ?_)
                · skip
                  refine goes_ Tryz.func66 (by kernel_rfl) rfl #[.int .u8 c, .slice A80 2 2] (by rfl) rfl rfl (by (try simp only [List.map_toArray, List.map_cons, List.map_nil]); first | done | rfl) ?_
                  with_reducible refine (pick_c c HPa.out HCC.out.1 HCC.out.2).mono ?_
                  rintro e w81 ⟨s81, rfl, hs, hb⟩
                  refine ⟨_, rfl, ?_⟩
                  have HS81 := Lib.hid hs
                  clear hs
                  have HPa := Lib.hid (HPa.out.below hb)
                  have HK := Lib.hid (HK.out.step hb)
                  clear hb
                  refine hK.out _ _ ⟨HK.out.bit.1, HK.out.bit.2, HK.out.c3.1⟩ (fun hHeld => ?_)
                  clear hK K
                  refine norm_ (a' := ?_) ?_ ?_
                  rotate_left
                  · show Act.put _ (some 81) _ = _
                    simp only [Act.put, List.setIfInBounds_toArray, List.set_cons_zero, List.set_cons_succ, i64_w, i32_w]
                    rfl
                  refine one_ (i := 8) (N := some 84) #[true, true, true, true, true, true, true, true, true, false, false, false, false, false, false] rfl rfl (by kernel_rfl) (by decide) (fun K hK => ?_)
                  refine lit_step ?hw (N := 84) ?hd (cs := #[.string ⟨#[116, 101, 120, 116, 47, 104, 116, 109, 108]⟩, .string ⟨#[84, 101, 120, 116, 47, 72, 84, 77, 76]⟩, .string ⟨#[120]⟩, .string ⟨#[101, 110]⟩]) (n := 4) ?hr ?h1 ?h2 ?h3 ?h4 ?_
                  (case hw => rfl)
                  (case hd => rfl)
                  (case hr => first | (go_simp; done) | (go_simp; rfl))
                  (case h1 => rfl)
                  (case h2 => decide)
                  (case h3 => decide)
                  (case h4 => rfl)
                  intro A84 w84 hp hb
                  have HPb := Lib.hid hp
                  have HPa := Lib.hid (HPa.out.below hb)
                  have HK := Lib.hid (HK.out.step hb)
                  clear hb
                  clear hp
                  refine hK.out _ _ ⟨HK.out.bit.1, HK.out.bit.2, HK.out.c3.1⟩ (fun hHeld => ?_)
                  clear hK K
                  refine norm_ (a' := ?_) ?_ ?_
                  rotate_left
                  · show Act.put _ (some 84) _ = _
                    simp only [Act.put, List.setIfInBounds_toArray, List.set_cons_zero, List.set_cons_succ, i64_w, i32_w]
                    rfl
                  exact norm_ (by simp only [putAll, Act.put, List.setIfInBounds_toArray, List.set_cons_zero, List.set_cons_succ]) (hCont (A80, s81, A84) _ ⟨hHeld, HK.out, HS81.out, HPb.out⟩)
                · skip
                  refine lit_step ?hw (N := 84) ?hd (cs := #[.string ⟨#[116, 101, 120, 116, 47, 104, 116, 109, 108]⟩, .string ⟨#[84, 101, 120, 116, 47, 72, 84, 77, 76]⟩, .string ⟨#[120]⟩, .string ⟨#[101, 110]⟩]) (n := 4) ?hr ?h1 ?h2 ?h3 ?h4 ?_
                  (case hw => rfl)
                  (case hd => rfl)
                  (case hr => first | (go_simp; done) | (go_simp; rfl))
                  (case h1 => rfl)
                  (case h2 => decide)
                  (case h3 => decide)
                  (case h4 => rfl)
                  intro A84 w84 hp hb
                  have HPb := Lib.hid hp
                  have HPa := Lib.hid (HPa.out.below hb)
                  have HK := Lib.hid (HK.out.step hb)
                  clear hb
                  clear hp
                  refine hK.out _ _ ⟨HK.out.bit.1, HK.out.bit.2, HK.out.c3.1⟩ (fun hHeld => ?_)
                  clear hK K
                  refine norm_ (a' := ?_) ?_ ?_
                  rotate_left
                  · show Act.put _ (some 84) _ = _
                    simp only [Act.put, List.setIfInBounds_toArray, List.set_cons_zero, List.set_cons_succ, i64_w, i32_w]
                    rfl
                  refine one_ (i := 5) (N := some 81) #[true, true, true, true, true, true, true, true, true, false, false, false, false, false, false] rfl rfl (by kernel_rfl) (by decide) (fun K hK => ?_)
                  refine goes_ Tryz.func66 (by kernel_rfl) rfl #[.int .u8 c, .slice A80 2 2] (by rfl) rfl rfl (by (try simp only [List.map_toArray, List.map_cons, List.map_nil]); first | done | rfl) ?_
                  with_reducible refine (pick_c c HPa.out HCC.out.1 HCC.out.2).mono ?_
                  rintro e w81 ⟨s81, rfl, hs, hb⟩
                  refine ⟨_, rfl, ?_⟩
                  have HS81 := Lib.hid hs
                  clear hs
                  have HPa := Lib.hid (HPa.out.below hb)
                  have HPb := Lib.hid (HPb.out.below hb)
                  have HK := Lib.hid (HK.out.step hb)
                  clear hb
                  refine hK.out _ _ ⟨HK.out.bit.1, HK.out.bit.2, HK.out.c3.1⟩ (fun hHeld => ?_)
                  clear hK K
                  refine norm_ (a' := ?_) ?_ ?_
                  rotate_left
                  · show Act.put _ (some 81) _ = _
                    simp only [Act.put, List.setIfInBounds_toArray, List.set_cons_zero, List.set_cons_succ, i64_w, i32_w]
                    rfl
                  exact norm_ (by simp only [putAll, Act.put, List.setIfInBounds_toArray, List.set_cons_zero, List.set_cons_succ]) (hCont (A80, s81, A84) _ ⟨hHeld, HK.out, HS81.out, HPb.out⟩)
              · skip
                refine lit_step ?hw (N := 84) ?hd (cs := #[.string ⟨#[116, 101, 120, 116, 47, 104, 116, 109, 108]⟩, .string ⟨#[84, 101, 120, 116, 47, 72, 84, 77, 76]⟩, .string ⟨#[120]⟩, .string ⟨#[101, 110]⟩]) (n := 4) ?hr ?h1 ?h2 ?h3 ?h4 ?_
                (case hw => rfl)
                (case hd => rfl)
                (case hr => first | (go_simp; done) | (go_simp; rfl))
                (case h1 => rfl)
                (case h2 => decide)
                (case h3 => decide)
                (case h4 => rfl)
                intro A84 w84 hp hb
                have HPb := Lib.hid hp
                have HK := Lib.hid (HK.out.step hb)
                clear hb
                clear hp
                refine hK.out _ _ ⟨HK.out.bit.1, HK.out.bit.2, HK.out.c3.1⟩ (fun hHeld => ?_)
                clear hK K
                refine norm_ (a' := ?_) ?_ ?_
                rotate_left
                · show Act.put _ (some 84) _ = _
                  simp only [Act.put, List.setIfInBounds_toArray, List.set_cons_zero, List.set_cons_succ, i64_w, i32_w]
                  rfl
                refine one_ (i := 4) (N := some 80) #[true, true, true, true, true, false, true, true, true, false, false, false, false, false, false] rfl rfl (by kernel_rfl) (by decide) (fun K hK => ?_)
                refine lit_step ?hw (N := 80) ?hd (cs := #[.string ⟨#[116, 121, 112, 101]⟩, .string ⟨#[104, 114, 101, 102, 108, 97, 110, 103]⟩]) (n := 2) ?hr ?h1 ?h2 ?h3 ?h4 ?_
                (case hw => rfl)
                (case hd => rfl)
                (case hr => first | (go_simp; done) | (go_simp; rfl))
                (case h1 => rfl)
                (case h2 => decide)
                (case h3 => decide)
                (case h4 => rfl)
                intro A80 w80 hp hb
                have HPa := Lib.hid hp
                have HPb := Lib.hid (HPb.out.below hb)
                have HK := Lib.hid (HK.out.step hb)
                clear hb
                clear hp
                refine hK.out _ _ ⟨HK.out.bit.1, HK.out.bit.2, HK.out.c3.1⟩ (fun hHeld => ?_)
                clear hK K
                refine norm_ (a' := ?_) ?_ ?_
                rotate_left
                · show Act.put _ (some 80) _ = _
                  simp only [Act.put, List.setIfInBounds_toArray, List.set_cons_zero, List.set_cons_succ, i64_w, i32_w]
                  rfl
                refine one_ (i := 5) (N := some 81) #[true, true, true, true, true, true, true, true, true, false, false, false, false, false, false] rfl rfl (by kernel_rfl) (by decide) (fun K hK => ?_)
                refine goes_ Tryz.func66 (by kernel_rfl) rfl #[.int .u8 c, .slice A80 2 2] (by rfl) rfl rfl (by (try simp only [List.map_toArray, List.map_cons, List.map_nil]); first | done | rfl) ?_
                with_reducible refine (pick_c c HPa.out HCC.out.1 HCC.out.2).mono ?_
                rintro e w81 ⟨s81, rfl, hs, hb⟩
                refine ⟨_, rfl, ?_⟩
                have HS81 := Lib.hid hs
                clear hs
                have HPb := Lib.hid (HPb.out.below hb)
                have HPa := Lib.hid (HPa.out.below hb)
                have HK := Lib.hid (HK.out.step hb)
                clear hb
                refine hK.out _ _ ⟨HK.out.bit.1, HK.out.bit.2, HK.out.c3.1⟩ (fun hHeld => ?_)
                clear hK K
                refine norm_ (a' := ?_) ?_ ?_
                rotate_left
                · show Act.put _ (some 81) _ = _
                  simp only [Act.put, List.setIfInBounds_toArray, List.set_cons_zero, List.set_cons_succ, i64_w, i32_w]
                  rfl
                exact norm_ (by simp only [putAll, Act.put, List.setIfInBounds_toArray, List.set_cons_zero, List.set_cons_succ]) (hCont (A80, s81, A84) _ ⟨hHeld, HK.out, HS81.out, HPb.out⟩)
            rintro ⟨A80, s81, A84⟩ w84 ⟨hHeld, hk, hs81, hpb⟩
            clear HK
            have HK := Lib.hid hk
            have HS81 : Hid (s81.size ≤ 100) := hs81
            have HPb : Hid (PK A84 4 w84) := hpb
            clear hk hs81 hpb
            refine norm_ (a' := ?_) ?_ ?_
            rotate_left
            · simp only [putAll, Act.put, List.setIfInBounds_toArray, List.set_cons_zero, List.set_cons_succ]
              rfl
            refine one_ (i := 9) (N := some 85) #[true, true, true, true, true, true, true, true, true, true, false, false, false, false, false] rfl rfl (by kernel_rfl) (by decide) (fun K hK => ?_)
            refine goes_ Tryz.func66 (by kernel_rfl) rfl #[.int .u8 c, .slice A84 4 4] (by rfl) rfl rfl (by (try simp only [List.map_toArray, List.map_cons, List.map_nil]); first | done | rfl) ?_
            with_reducible refine (pick_c c HPb.out HCC.out.1 HCC.out.2).mono ?_
            rintro e w85 ⟨s85, rfl, hs, hb⟩
            refine ⟨_, rfl, ?_⟩
            have HS85 := Lib.hid hs
            clear hs
            have HK := Lib.hid (HK.out.step hb)
            clear hb
            refine hK.out _ _ ⟨HK.out.bit.1, HK.out.bit.2, HK.out.c3.1⟩ (fun hHeld => ?_)
            clear hK K
            refine norm_ (a' := ?_) ?_ ?_
            rotate_left
            · show Act.put _ (some 85) _ = _
              simp only [Act.put, List.setIfInBounds_toArray, List.set_cons_zero, List.set_cons_succ, i64_w, i32_w]
              rfl
            refine pure_ (i := 10) (N := some 86) (v := ?_) (a' := ?_) #[true, true, true, true, true, true, true, true, true, true, true, false, false, false, false] rfl rfl (by kernel_rfl) (fun _ _ _ h => h) (Or.inl ⟨by rfl, ?_⟩) ?_ ?_
            rotate_left
            · intro w'
              go_simp
              with_reducible rfl
            rotate_left
            · simp only [Act.put, List.setIfInBounds_toArray, List.set_cons_zero, List.set_cons_succ, i64_w, i32_w]
              rfl
            refine one_ (i := 11) (N := some 87) #[true, true, true, true, true, true, true, true, true, true, true, true, false, false, false] rfl rfl (by kernel_rfl) (by decide) (fun K hK => ?_)
            refine KI.alit1_step (ya := ⟨⟨#[]⟩, s81, s85⟩) HK.out ?hw (N := 87) ?hd ?hr ?_
            (case hw => rfl)
            (case hd => rfl)
            (case hr => first | (go_simp; done) | (go_simp; rfl))
            intro A87 k87 w87 hk hf
            clear HK
            have HK := Lib.hid hk
            have HF := Lib.hid hf
            clear hk hf
            refine hK.out _ _ ⟨HK.out.bit.1, HK.out.bit.2, HK.out.c3.1⟩ (fun hHeld => ?_)
            clear hK K
            refine norm_ (a' := ?_) ?_ ?_
            rotate_left
            · show Act.put _ (some 87) _ = _
              simp only [Act.put, List.setIfInBounds_toArray, List.set_cons_zero, List.set_cons_succ, i64_w, i32_w]
              rfl
            refine one_ (i := 12) (N := some 88) #[true, true, true, true, true, true, true, true, true, true, true, true, true, false, false] rfl rfl (by kernel_rfl) (by decide) (fun K hK => ?_)
            refine Kd.N_append_rows_step k41 (w0 := w) w.heap.size (by rfl) _ _ 22 41 _ 48 rfl Tryz.underlying22 info41 (by rfl) (by decide) (by decide) (.slice A61 n61 k61) y.f3 [_] A87 1 k87 _ _ rfl rfl HK.out.r3 HF.out (fun _ hk => hk) (fun k hk => (HK.out.fresh k hk).1.1) HK.out.bw HK.out.bw.size (by have := HK.out.sm.n3; omega) ?_
            intro v1 w88 hn hb6 hg hat
            obtain ⟨A88, m88, k88, rfl⟩ := N_any hn
            have hbt := HK.out.bit3 (fun k hk hne => hg.block k hk hne)
            have hp3 := KI.put3 HK.out hn hb6 (fun k hk hne => hg.block k hk hne) hat (HK.out.sm.put3 _ 3 (by decide) (by rw [List.length_append]; have := HK.out.sm.n3; show _ + 1 ≤ 3; omega) (fun y hy => by rcases List.mem_append.1 hy with hy | hy; exact HK.out.sm.at3 y hy; rw [List.mem_singleton.1 hy]; exact ⟨Nat.zero_le _, HS81.out, HS85.out⟩))
            have hc3 := hp3.1.1
            have hf3 := hp3.1.2
            have HK := Lib.hid hp3.2
            clear hp3
            refine hK.out _ _ ⟨hbt.1, hbt.2, hc3⟩ (fun hHeld => ?_)
            clear hK K
            refine norm_ (a' := ?_) ?_ ?_
            rotate_left
            · show Act.put _ (some 88) _ = _
              simp only [Act.put, List.setIfInBounds_toArray, List.set_cons_zero, List.set_cons_succ, i64_w, i32_w]
              rfl
            refine pure_ (i := 13) (N := some 89) (v := ?_) (a' := ?_) #[true, true, true, true, true, true, true, true, true, true, true, true, true, true, false] rfl rfl (by kernel_rfl) (fun _ _ _ h => h) (Or.inl ⟨by rfl, ?_⟩) ?_ ?_
            rotate_left
            · intro w'
              go_simp
              with_reducible rfl
            rotate_left
            · simp only [Act.put, List.setIfInBounds_toArray, List.set_cons_zero, List.set_cons_succ, i64_w, i32_w]
              rfl
            refine last_ (i := 14) (N := none) #[true, true, true, true, true, true, true, true, true, true, true, true, true, true, true] rfl rfl (by kernel_rfl) (by decide) (fun K hK => ?_)
            refine skip_ (w1 := ?_) (by rfl) rfl ?_ ?_
            rotate_left
            · go_simp
              rfl
            refine hK.out _ _ ?_
            clear hK K
            refine done_ (by kernel_rfl) ?_
            generalize (w88.setCell ⟨g4, 3, none⟩ (.slice A88 m88 k88)) = w89 at HK ⊢
            obtain ⟨z0, z1, z2, z3, z4, z5⟩ := HK.out.cells
            obtain ⟨y0, y1, y2, y3, y4, y5⟩ := box6 HK.out.b2
            have f0 := blk_frozen HK.out.b2 0
            have f1 := blk_frozen HK.out.b2 1
            have f2 := blk_frozen HK.out.b2 2
            have f3 := blk_frozen HK.out.b2 3
            have f4 := blk_frozen HK.out.b2 4
            have f5 := blk_frozen HK.out.b2 5
            go_wp2_with fail
            refine bodyPost_ret (results_cell_row rfl _ _ g2 25 _ (0, 0) _ rfl HK.out.blk2 Tryz.underlying25 rfl (by kernel_rfl)) rfl ?_
            exact ⟨_, _, _, _, _, _, _, rfl, HK.out.done.1, HK.out.sm.sm (by decide), HK.out.done.2⟩
      case false =>
        go_upto_if 90 with fail
        cases hc : (nm.toList == ([99, 97, 116, 101, 103, 111, 114, 121] : List UInt8))
        case true =>
          
          go_upto_region 27 with (first | ((with_reducible refine gate_dst (N := 94) rfl ?_); refine lit_event ?hg (N := 94) ?hd (cs := #[.string ⟨#[116, 101, 114, 109]⟩, .string ⟨#[116, 101, 114, 109]⟩, .string ⟨#[108, 97, 98, 101, 108]⟩]) (n := 3) ?hr ?h1 ?h2 ?h3 ?h4 ?_; (case hd => rfl); (case hg => rfl); (case hr => first | (go_simp; done) | (go_simp; rfl)); (case h1 => rfl); (case h2 => decide); (case h3 => decide); (case h4 => rfl); intro A94 w10 hp hb; have HK := Lib.hid (HK.out.step hb); have HP1 := Lib.hid hp; clear hp hb d1 d2; obtain ⟨d1, d2⟩ := HK.out.bit) | (go_at_call 66; with_reducible refine (pick_c _ HP1.out HBB.out.1 HBB.out.2).mono ?_; rintro e w11 ⟨s95, rfl, hs, hb⟩; have HK := Lib.hid (HK.out.step hb); have HS95 := Lib.hid hs; clear hs hb d1 d2; obtain ⟨d1, d2⟩ := HK.out.bit) | ((with_reducible refine gate_dst (N := 97) rfl ?_); refine KI.alitp (ya := ⟨⟨#[]⟩, s95, ⟨#[116]⟩⟩) HK.out ?hg (N := 97) ?hd ?hr (m' := 1) (by decide) (by decide) ⟨Nat.zero_le _, HS95.out, (by decide : (⟨#[116]⟩ : ByteArray).size ≤ 100)⟩ ?_; (case hg => rfl); (case hd => rfl); (case hr => first | (go_simp; done) | (go_simp; rfl)); intro A97 m97 k97 w12 hc3 hf3 hb1 hb2 hk; clear HK; have HK := Lib.hid hk; clear hk d1 d2))
          obtain ⟨z0, z1, z2, z3, z4, z5⟩ := HK.out.cells
          obtain ⟨y0, y1, y2, y3, y4, y5⟩ := box6 HK.out.b2
          have f0 := blk_frozen HK.out.b2 0
          have f1 := blk_frozen HK.out.b2 1
          have f2 := blk_frozen HK.out.b2 2
          have f3 := blk_frozen HK.out.b2 3
          have f4 := blk_frozen HK.out.b2 4
          have f5 := blk_frozen HK.out.b2 5
          go_wp2_with fail
          refine bodyPost_ret (results_cell_row rfl _ _ g2 25 _ (0, 0) _ rfl HK.out.blk2 Tryz.underlying25 rfl (by kernel_rfl)) rfl ?_
          exact ⟨_, _, _, _, _, _, _, rfl, HK.out.done.1, HK.out.sm.sm (by decide), HK.out.done.2⟩
        case false =>
          go_upto_if 99 with fail
          go_cut [99] (fun v99 wc_ => ∃ q : Bool, v99 = .bool q ∧ wc_ = wc)
          case first =>
            cases h1 : (nm.toList == ([116, 105, 116, 108, 101] : List UInt8))
            case true =>
              go_wp2_with fail
              go_meet
              case rel => exact ⟨_, rfl, rfl⟩
            case false =>
              cases h2 : (nm.toList == ([115, 117, 109, 109, 97, 114, 121] : List UInt8))
              case true =>
                go_wp2_with fail
                go_meet
                case rel => exact ⟨_, rfl, rfl⟩
              case false =>
                cases h3 : (nm.toList == ([114, 105, 103, 104, 116, 115] : List UInt8))
                case true =>
                  go_wp2_with fail
                  go_meet
                  case rel => exact ⟨_, rfl, rfl⟩
                case false =>
                  go_wp2_with fail
                  go_meet
                  case rel => exact ⟨_, rfl, rfl⟩
          case rest =>
            obtain ⟨q, rfl, rfl⟩ := hcut
            cases q
            case false =>
              obtain ⟨z0, z1, z2, z3, z4, z5⟩ := HK.out.cells
              obtain ⟨y0, y1, y2, y3, y4, y5⟩ := box6 HK.out.b2
              have f0 := blk_frozen HK.out.b2 0
              have f1 := blk_frozen HK.out.b2 1
              have f2 := blk_frozen HK.out.b2 2
              have f3 := blk_frozen HK.out.b2 3
              have f4 := blk_frozen HK.out.b2 4
              have f5 := blk_frozen HK.out.b2 5
              go_wp2_with fail
              refine bodyPost_ret (results_cell_row rfl _ _ g2 25 _ (0, 0) _ rfl HK.out.blk2 Tryz.underlying25 rfl (by kernel_rfl)) rfl ?_
              exact ⟨_, _, _, _, _, _, _, rfl, HK.out.done.1, HK.out.sm.sm (by decide), HK.out.done.2⟩
            case true =>
              go_upto_if 107 with fail
              go_cut [] (fun wc => ∃ y A n c', KI w wc g1 g2 g4 a b c 1 y (.slice A n c') (.slice A4 n4 c4))
              case first =>
                cases hq : (Int.tmod c 2 == 0)
                case false =>
                  go_wp2_with fail
                  go_meet
                  case rel => exact ⟨_, _, _, _, KI_le HK.out (by decide)⟩
                case true =>
                  go_wp2_with (first | ((with_reducible refine gate_dst (N := 111) rfl ?_); refine lit_event ?hg (N := 111) ?hd (cs := #[.string ⟨#[116, 101, 120, 116]⟩, .string ⟨#[104, 116, 109, 108]⟩, .string ⟨#[120, 104, 116, 109, 108]⟩, .string ⟨#[105, 109, 97, 103, 101, 47, 112, 110, 103]⟩, .string ⟨#[109, 117, 108, 116, 105, 112, 97, 114, 116, 47, 120]⟩, .string ⟨#[121]⟩]) (n := 6) ?hr ?h1 ?h2 ?h3 ?h4 ?_; (case hd => rfl); (case hg => rfl); (case hr => first | (go_simp; done) | (go_simp; rfl)); (case h1 => rfl); (case h2 => decide); (case h3 => decide); (case h4 => rfl); intro A111 w10 hp hb; have HK := Lib.hid (HK.out.step hb); have HP1 := Lib.hid hp; clear hp hb d1 d2; obtain ⟨d1, d2⟩ := HK.out.bit) | (go_at_call 66; with_reducible refine (pick_c _ HP1.out (half_ok _).1 (half_ok _).2).mono ?_; rintro e w11 ⟨s112, rfl, hs, hb⟩; have HK := Lib.hid (HK.out.step hb); have HS112 := Lib.hid hs; clear hs hb d1 d2; obtain ⟨d1, d2⟩ := HK.out.bit) | ((with_reducible refine gate_dst (N := 114) rfl ?_); refine KI.alitp (ya := ⟨⟨#[]⟩, ⟨#[116, 121, 112, 101]⟩, s112⟩) HK.out ?hg (N := 114) ?hd ?hr (m' := 1) (by decide) (by decide) ⟨Nat.zero_le _, (by decide : (⟨#[116, 121, 112, 101]⟩ : ByteArray).size ≤ 100), HS112.out⟩ ?_; (case hg => rfl); (case hd => rfl); (case hr => first | (go_simp; done) | (go_simp; rfl)); intro A114 m114 k114 w12 hc3 hf3 hb1 hb2 hk; clear HK; have HK := Lib.hid hk; clear hk d1 d2))
                  go_meet
                  case rel => exact ⟨_, _, _, _, KI_le HK.out (by decide)⟩
              case rest =>
                clear HK d1 d2
                obtain ⟨y, A7, n7, k7, hk⟩ := hcut
                rename_i wb
                have HK := Lib.hid hk
                clear hk
                obtain ⟨d1, d2⟩ := HK.out.bit
                go_upto_if 119 with fail
                go_cut [] (fun wc => ∃ y A n c', KI w wc g1 g2 g4 a b c 2 y (.slice A7 n7 k7) (.slice A n c'))
                case first =>
                  cases hq : (Int.tmod b 5 == 0)
                  case false =>
                    go_wp2_with fail
                    go_meet
                    case rel => exact ⟨_, _, _, _, KI_le HK.out (by decide)⟩
                  case true =>
                    have e4 := HK.out.c4.1
                    go_wp2_with (first | ((with_reducible refine gate_dst (N := 123) rfl ?_); refine KI.nlit1 (xe := ⟨0, ⟨#[104, 116, 116, 112, 58, 47, 47, 119, 119, 119, 46, 119, 51, 46, 111, 114, 103, 47, 49, 57, 57, 57, 47, 120, 104, 116, 109, 108]⟩, ⟨#[100, 105, 118]⟩, [], [], ⟨#[]⟩⟩) HK.out (madeE_bare _ _ _ _ _ _) ?hg (N := 123) ?hd ?hr ?_; (case hg => rfl); (case hd => rfl); (case hr => first | (go_simp; done) | (go_simp; rfl)); intro A123 k123 w13 hk hf; clear HK; have HK := Lib.hid hk; have HF := Lib.hid hf; clear hk hf e4 d1 d2; obtain ⟨d1, d2⟩ := HK.out.bit) | ((with_reducible refine gate_dst (N := 124) rfl ?_); refine KI.app4 (s := .tmp 121) (y := .tmp 123) (k' := k123) (N := 124) HK.out ?hg ?hd ?ho ?hs ?hx HF.out (fun z hz => by rw [List.mem_singleton.1 hz]; exact sm_bare) (m' := 2) (by decide) (by have := HK.out.sm.n4; show _ + 1 ≤ 2; omega) (by decide) (by decide) ?_; (case hg => rfl); (case hd => rfl); (case ho => rfl); (case hs => rfl); (case hx => rfl); intro A124 m124 k124 w14 hc4 hf4 hb1 hb2 hk; clear HK; have HK := Lib.hid hk; clear hk d1 d2))
                    go_meet
                    case rel => exact ⟨_, _, _, _, HK.out⟩
                case rest =>
                  clear HK d1 d2
                  obtain ⟨y', A8, n8, k8, hk⟩ := hcut
                  rename_i wd
                  have HK := Lib.hid hk
                  clear hk
                  obtain ⟨d1, d2⟩ := HK.out.bit
                  go_upto_if 129 with fail
                  cases hq : (Int.tmod b 7 == 0)
                  case false =>
                    obtain ⟨z0, z1, z2, z3, z4, z5⟩ := HK.out.cells
                    obtain ⟨y0, y1, y2, y3, y4, y5⟩ := box6 HK.out.b2
                    have f0 := blk_frozen HK.out.b2 0
                    have f1 := blk_frozen HK.out.b2 1
                    have f2 := blk_frozen HK.out.b2 2
                    have f3 := blk_frozen HK.out.b2 3
                    have f4 := blk_frozen HK.out.b2 4
                    have f5 := blk_frozen HK.out.b2 5
                    go_wp2_with fail
                    refine bodyPost_ret (results_cell_row rfl _ _ g2 25 _ (0, 0) _ rfl HK.out.blk2 Tryz.underlying25 rfl (by kernel_rfl)) rfl ?_
                    exact ⟨_, _, _, _, _, _, _, rfl, HK.out.done.1, HK.out.sm.sm (by decide), HK.out.done.2⟩
                  case true =>
                    have e3 := HK.out.c3.1
                    go_upto_region 27 with (first | ((with_reducible refine gate_dst (N := 133) rfl ?_); refine KI.alit1 (ya := ⟨⟨#[]⟩, ⟨#[115, 114, 99]⟩, ⟨#[115]⟩⟩) HK.out ?hg (N := 133) ?hd ?hr ?_; (case hg => rfl); (case hd => rfl); (case hr => first | (go_simp; done) | (go_simp; rfl)); intro A133 k133 w15 hk hf; clear HK; have HK := Lib.hid hk; have HF := Lib.hid hf; clear hk hf e3 d1 d2; obtain ⟨d1, d2⟩ := HK.out.bit) | ((with_reducible refine gate_dst (N := 134) rfl ?_); refine KI.app3 (s := .tmp 131) (y := .tmp 133) (k' := k133) (N := 134) HK.out ?hg ?hd ?ho ?hs ?hx HF.out (fun z hz => by rw [List.mem_singleton.1 hz]; exact ⟨Nat.zero_le _, (by decide : (⟨#[115, 114, 99]⟩ : ByteArray).size ≤ 100), (by decide : (⟨#[115]⟩ : ByteArray).size ≤ 100)⟩) (m' := 3) (by decide) (by have := HK.out.sm.n3; show _ + 1 ≤ 3; omega) (by decide) (by decide) ?_; (case hg => rfl); (case hd => rfl); (case ho => rfl); (case hs => rfl); (case hx => rfl); intro A134 m134 k134 w16 hc3 hf3 hb1 hb2 hk; clear HK; have HK := Lib.hid hk; clear hk d1 d2))
                    obtain ⟨z0, z1, z2, z3, z4, z5⟩ := HK.out.cells
                    obtain ⟨y0, y1, y2, y3, y4, y5⟩ := box6 HK.out.b2
                    have f0 := blk_frozen HK.out.b2 0
                    have f1 := blk_frozen HK.out.b2 1
                    have f2 := blk_frozen HK.out.b2 2
                    have f3 := blk_frozen HK.out.b2 3
                    have f4 := blk_frozen HK.out.b2 4
                    have f5 := blk_frozen HK.out.b2 5
                    go_wp2_with fail
                    refine bodyPost_ret (results_cell_row rfl _ _ g2 25 _ (0, 0) _ rfl HK.out.blk2 Tryz.underlying25 rfl (by kernel_rfl)) rfl ?_
                    exact ⟨_, _, _, _, _, _, _, rfl, HK.out.done.1, HK.out.sm.sm (by decide), HK.out.done.2⟩
end Go.Proofs.YtcplaafmelcndaaGreatDoor.At
