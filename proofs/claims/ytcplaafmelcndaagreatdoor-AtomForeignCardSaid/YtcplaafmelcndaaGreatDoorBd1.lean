/- 13 texts in one file: Prx0, Del, All, Fit, Shelf, Gly, Bld, Tex, Fld, Kib, Vmp, Str, Sma. -/
import Derived.Test.YtcplaafmelcndaaGreatDoorProg
import Derived.Below
import Derived.Deep.Draws
import Derived.Deep.AppendLies
import Derived.Maps.AppendAt
import Derived.OwnWalk
import Derived.Laws.BytesArg
import Derived.Laws.MakeOwn
import Derived.Laws.OwnMore
import Derived.Deep.OwnRows
import Derived.Tactics
import Derived.Lib.ConvBytes
import Derived.Laws.Slices
import Derived.WalkKit
import Derived.KernelRfl
import Derived.RowKit3
import Derived.Deep.LoopGhost
import Derived.Deep.QuietTactic
import Derived.BigQuiet
import Derived.WideLaws
import Derived.Deep.DeepCutAuto
import Derived.Deep.CutBlock
import Derived.Deep.RegionHeld3
import Derived.Laws.Rows
import Derived.Lib.AppendStr
import Derived.ArgAppend
import Derived.Laws.IdiomCopy
import Derived.OrdersHeld
import Derived.Laws.BitsLemmas
import Derived.RowKit
import Derived.Test.YtcplaafmelcndaaGreatDoorWWords
import Derived.Test.YtcplaafmelcndaaGreatDoorWLast
import Derived.Test.YtcplaafmelcndaaGreatDoorBd0
import Derived.Test.YtcplaafmelcndaaGreatDoorWMore
import Derived.Lib.Hide
import Derived.Lib.SliceRun
import Derived.WalkSpells
import Derived.WalkLawsBesides
import Derived.Shelf.Strings.Builder1
import Derived.Shelf.Strings.Trim
import Derived.Shelf.Small.Utf8
import Derived.Shelf.Small.Strs
import Derived.Shelf.Small.Wraps
import Derived.Shelf.Strings.BuilderF
import Derived.Shelf.Strings.BuilderK
import Derived.Shelf.Strings.Search1
import Derived.Shelf.Strings.Search2
import Derived.Shelf.Strings.Search3
import Derived.Shelf.Strings.Cut
import Derived.Shelf.LaysM
import Derived.Shelf.Strings.Shaped
import Derived.Shelf.Strings.Prefix
import Derived.Shelf.Unicode.Decode
import Derived.Shelf.Strings.Runes
import Derived.Shelf.Strings.AsciiSet
import Derived.Shelf.Unicode.DecodeSlow
import Derived.Shelf.Unicode.DecodeAny
import Derived.Shelf.Strings.BuilderCap
import Derived.Shelf.Unicode.ValidAny
import Derived.Lib.OthersKept
import Derived.Lib.TrimU
import Derived.Lib.SlTrimSet
import Derived.DeepKeys4
import Derived.WideKeyEntry
import Derived.Shelf.Strings.SlTrimAscii
import Derived.Lib.IndexLaws
import Derived.Lib.SlBytesRow
section
-- Written by given.py, a program of this session, over the kit's printer.
namespace Go.Proofs.YtcplaafmelcndaaGreatDoor.Pr
open Go.RowKit Go.Proofs.YtcplaafmelcndaaGreatDoorW.PrintWords Go.Proofs.YtcplaafmelcndaaGreatDoorW.PrintLast Go.Proofs.YtcplaafmelcndaaGreatDoorW.PrintMore
attribute [local go_sem] max2_int min2_int max_two min_two max_three min_three max_four min_four
set_option linter.unusedVariables false
set_option linter.unusedSimpArgs false
def errW : Option Int → Value
  | none => .nilIface
  | some c => .iface 0 (.int .i64 c)
theorem errW_none : errW none = .nilIface := rfl
theorem errW_some (c : Int) : errW (some c) = .iface 0 (.int .i64 c) := rfl
theorem info25 : (Tryz.prog.info? 25).map (fun i => (i.zero, i.size, i.bytes)) = some (some (.agg #[(.int .i64 0), (.string ⟨#[]⟩), (.string ⟨#[]⟩), (.slice none 0 0), (.slice none 0 0), (.string ⟨#[]⟩)]), 6, 104) := by kernel_rfl
theorem info132 : (Tryz.prog.info? 132).map (fun i => (i.zero, i.size, i.bytes)) = some (some (.agg #[(.string ⟨#[]⟩), (.string ⟨#[]⟩)]), 2, 32) := by kernel_rfl
structure S41 where
  f0 : ByteArray
  f1 : ByteArray
  f2 : ByteArray
def z41 : S41 := ⟨(⟨#[]⟩ : ByteArray), (⟨#[]⟩ : ByteArray), (⟨#[]⟩ : ByteArray)⟩
def k41 : Kd S41 := Kd.iso (Kd.pair Kd.string (Kd.pair Kd.string Kd.string)) (fun x : S41 => (x.f0, x.f1, x.f2))
theorem k41_open {w : World} {x : S41} {cs : List Value} (h : k41.K w x cs) : cs = [.string x.f0, .string x.f1, .string x.f2] := by
  obtain ⟨_, _, rfl, rfl, ⟨_, _, rfl, rfl, rfl⟩⟩ := h
  exact rfl
theorem k41_mk (w : World) (x : S41)  : k41.K w x [.string x.f0, .string x.f1, .string x.f2] := ⟨[.string x.f0], [.string x.f1, .string x.f2], rfl, rfl, ⟨[.string x.f1], [.string x.f2], rfl, rfl, rfl⟩⟩
theorem k41_mkM (w : World) (base : Nat) (ok : Nat → Prop) (x : S41)  : k41.M w base ok x [.string x.f0, .string x.f1, .string x.f2] := ⟨[.string x.f0], [.string x.f1, .string x.f2], rfl, rfl, ⟨[.string x.f1], [.string x.f2], rfl, rfl, rfl⟩⟩
theorem k41_mkF (W : World) (ok : Nat → Prop) (x : S41) : Kd.FK k41 W ok x [.string x.f0, .string x.f1, .string x.f2] := fun W2 _ => k41_mk W2 x
def rd_T41 (xs : List S41) (i : Int) : S41 := xs.getD i.toNat z41
theorem at_T41 {w : World} {A : Option Addr} {n : Nat} {xs : List S41} (h : Kd.C k41 w A n xs) (i : Int) (h0 : 0 ≤ i) (h1 : i < n) : ∃ ad , A = some ad ∧ w.cell? (ad.add (i.toNat * 3)) = some (.string (rd_T41 xs i).f0) ∧ w.cell? ⟨(ad.add (i.toNat * 3)).block, (ad.add (i.toNat * 3)).off + 1, none⟩ = some (.string (rd_T41 xs i).f1) ∧ w.cell? ⟨(ad.add (i.toNat * 3)).block, (ad.add (i.toNat * 3)).off + 2, none⟩ = some (.string (rd_T41 xs i).f2) := by
  obtain ⟨ad, c, e, _, hK, hc0⟩ := Kd.C_get h z41 i h0 h1
  have hc : ∀ j u, c[j]? = some u → w.cell? (ad.add (i.toNat * 3 + j)) = some u := hc0
  obtain rfl := k41_open hK
  exact ⟨ad, e, hc 0 _ rfl, by rw [← add_field _ _ 1 (by omega)]; exact hc 1 _ rfl, by rw [← add_field _ _ 2 (by omega)]; exact hc 2 _ rfl⟩
structure S25 where
  f0 : Int
  f1 : ByteArray
  f2 : ByteArray
  f3 : (List S41)
  f4 : (List S25)
  f5 : ByteArray
def z25 : S25 := ⟨(0 : Int), (⟨#[]⟩ : ByteArray), (⟨#[]⟩ : ByteArray), ([] : List S41), ([] : List S25), (⟨#[]⟩ : ByteArray)⟩
def F25 (d : Kd S25) : Kd S25 := Kd.iso (Kd.pair (Kd.int .i64) (Kd.pair Kd.string (Kd.pair Kd.string (Kd.pair (Kd.slice 41 k41) (Kd.pair (Kd.slice 25 d) Kd.string))))) (fun x : S25 => (x.f0, x.f1, x.f2, x.f3, x.f4, x.f5))
theorem mono25 : Kd.Mono F25 := Kd.mono_iso _ (Kd.mono_pair (Kd.mono_const _) (Kd.mono_pair (Kd.mono_const _) (Kd.mono_pair (Kd.mono_const _) (Kd.mono_pair (Kd.mono_const _) (Kd.mono_pair (Kd.mono_slice 25 Kd.mono_id) (Kd.mono_const _))))))
theorem sub25 : Kd.Sub F25 [25, 41] := Kd.sub_iso _ (Kd.sub_pair (Kd.sub_const _ (by decide)) (Kd.sub_pair (Kd.sub_const _ (by decide)) (Kd.sub_pair (Kd.sub_const _ (by decide)) (Kd.sub_pair (Kd.sub_const _ (by decide)) (Kd.sub_pair (Kd.sub_slice 25 (by decide) Kd.sub_id) (Kd.sub_const _ (by decide)))))))
theorem sz25 : ∀ n, (Kd.upto F25 6 [25, 41] n).sz = 6 := Kd.upto_sz (fun _ => rfl)
def k25 : Kd S25 := Kd.fix F25 6 [25, 41] sz25 (Kd.upto_E sub25)
theorem k25_open {w : World} {x : S25} {cs : List Value} (h : k25.K w x cs) : ∃ A3 c3 A4 c4, cs = [.int .i64 x.f0, .string x.f1, .string x.f2, .slice A3 x.f3.length c3, .slice A4 x.f4.length c4, .string x.f5] ∧ x.f3.length ≤ c3 ∧ k41.C w A3 x.f3.length x.f3 ∧ x.f4.length ≤ c4 ∧ k25.C w A4 x.f4.length x.f4 := by
  obtain ⟨n, h⟩ := h
  cases n with
  | zero => exact h.elim
  | succ n =>
    obtain ⟨_, _, rfl, rfl, ⟨_, _, rfl, rfl, ⟨_, _, rfl, rfl, ⟨_, _, rfl, ⟨A3, c3, rfl, l3, g3⟩, ⟨_, _, rfl, ⟨A4, c4, rfl, l4, g4⟩, rfl⟩⟩⟩⟩⟩ := h
    exact ⟨A3, c3, A4, c4, rfl, l3, g3, l4, Kd.fix_C g4⟩
theorem k25_mk (w : World) (x : S25) {A3 : Option Addr} {c3 : Nat} (l3 : x.f3.length ≤ c3) (g3 : k41.C w A3 x.f3.length x.f3) {A4 : Option Addr} {c4 : Nat} (l4 : x.f4.length ≤ c4) (g4 : k25.C w A4 x.f4.length x.f4) : k25.K w x [.int .i64 x.f0, .string x.f1, .string x.f2, .slice A3 x.f3.length c3, .slice A4 x.f4.length c4, .string x.f5] := by
  obtain ⟨n4, q4⟩ := Kd.fix_C_back mono25 g4
  have r4 := Kd.upto_C_le mono25 sz25 (show n4 ≤ n4 by omega) q4
  exact ⟨n4 + 1, ⟨[.int .i64 x.f0], [.string x.f1, .string x.f2, .slice A3 x.f3.length c3, .slice A4 x.f4.length c4, .string x.f5], rfl, rfl, ⟨[.string x.f1], [.string x.f2, .slice A3 x.f3.length c3, .slice A4 x.f4.length c4, .string x.f5], rfl, rfl, ⟨[.string x.f2], [.slice A3 x.f3.length c3, .slice A4 x.f4.length c4, .string x.f5], rfl, rfl, ⟨[.slice A3 x.f3.length c3], [.slice A4 x.f4.length c4, .string x.f5], rfl, ⟨A3, c3, rfl, l3, g3⟩, ⟨[.slice A4 x.f4.length c4], [.string x.f5], rfl, ⟨A4, c4, rfl, l4, r4⟩, rfl⟩⟩⟩⟩⟩⟩
theorem k25_mkF (W : World) (ok : Nat → Prop) (x : S25) {A3 : Option Addr} {c3 : Nat} (l3 : x.f3.length ≤ c3) (g3 : Kd.F k41 W ok A3 x.f3.length x.f3) {A4 : Option Addr} {c4 : Nat} (l4 : x.f4.length ≤ c4) (g4 : Kd.F k25 W ok A4 x.f4.length x.f4) : Kd.FK k25 W ok x [.int .i64 x.f0, .string x.f1, .string x.f2, .slice A3 x.f3.length c3, .slice A4 x.f4.length c4, .string x.f5] := fun W2 hW => k25_mk W2 x l3 (g3 W2 hW) l4 (g4 W2 hW)
def rd_T25 (xs : List S25) (i : Int) : S25 := xs.getD i.toNat z25
theorem at_T25 {w : World} {A : Option Addr} {n : Nat} {xs : List S25} (h : Kd.C k25 w A n xs) (i : Int) (h0 : 0 ≤ i) (h1 : i < n) : ∃ ad A3 c3 A4 c4, A = some ad ∧ w.cell? (ad.add (i.toNat * 6)) = some (.int .i64 (rd_T25 xs i).f0) ∧ w.cell? ⟨(ad.add (i.toNat * 6)).block, (ad.add (i.toNat * 6)).off + 1, none⟩ = some (.string (rd_T25 xs i).f1) ∧ w.cell? ⟨(ad.add (i.toNat * 6)).block, (ad.add (i.toNat * 6)).off + 2, none⟩ = some (.string (rd_T25 xs i).f2) ∧ w.cell? ⟨(ad.add (i.toNat * 6)).block, (ad.add (i.toNat * 6)).off + 3, none⟩ = some (.slice A3 (rd_T25 xs i).f3.length c3) ∧ w.cell? ⟨(ad.add (i.toNat * 6)).block, (ad.add (i.toNat * 6)).off + 4, none⟩ = some (.slice A4 (rd_T25 xs i).f4.length c4) ∧ w.cell? ⟨(ad.add (i.toNat * 6)).block, (ad.add (i.toNat * 6)).off + 5, none⟩ = some (.string (rd_T25 xs i).f5) ∧ (rd_T25 xs i).f3.length ≤ c3 ∧ k41.C w A3 (rd_T25 xs i).f3.length (rd_T25 xs i).f3 ∧ (rd_T25 xs i).f4.length ≤ c4 ∧ k25.C w A4 (rd_T25 xs i).f4.length (rd_T25 xs i).f4 := by
  obtain ⟨ad, c, e, _, hK, hc0⟩ := Kd.C_get h z25 i h0 h1
  have hc : ∀ j u, c[j]? = some u → w.cell? (ad.add (i.toNat * 6 + j)) = some u := hc0
  obtain ⟨A3, c3, A4, c4, rfl, l3, g3, l4, g4⟩ := k25_open hK
  exact ⟨ad, A3, c3, A4, c4, e, hc 0 _ rfl, by rw [← add_field _ _ 1 (by omega)]; exact hc 1 _ rfl, by rw [← add_field _ _ 2 (by omega)]; exact hc 2 _ rfl, by rw [← add_field _ _ 3 (by omega)]; exact hc 3 _ rfl, by rw [← add_field _ _ 4 (by omega)]; exact hc 4 _ rfl, by rw [← add_field _ _ 5 (by omega)]; exact hc 5 _ rfl, l3, g3, l4, g4⟩
structure S132 where
  f0 : ByteArray
  f1 : ByteArray
def k132 : Kd S132 := Kd.iso (Kd.pair Kd.string Kd.string) (fun x : S132 => (x.f0, x.f1))
theorem k132_mkM (w : World) (base : Nat) (ok : Nat → Prop) (x : S132)  : k132.M w base ok x [.string x.f0, .string x.f1] := ⟨[.string x.f0], [.string x.f1], rfl, rfl, rfl⟩
structure S36 where
  f0 : Int
  f1 : Int
  f2 : Int
def z36 : S36 := ⟨(0 : Int), (0 : Int), (0 : Int)⟩
def k36 : Kd S36 := Kd.iso (Kd.pair (Kd.int .u8) (Kd.pair (Kd.int .u8) (Kd.int .u8))) (fun x : S36 => (x.f0, x.f1, x.f2))
theorem k36_open {w : World} {x : S36} {cs : List Value} (h : k36.K w x cs) : cs = [.int .u8 x.f0, .int .u8 x.f1, .int .u8 x.f2] := by
  obtain ⟨_, _, rfl, rfl, ⟨_, _, rfl, rfl, rfl⟩⟩ := h
  exact rfl
theorem k36_mk (w : World) (x : S36)  : k36.K w x [.int .u8 x.f0, .int .u8 x.f1, .int .u8 x.f2] := ⟨[.int .u8 x.f0], [.int .u8 x.f1, .int .u8 x.f2], rfl, rfl, ⟨[.int .u8 x.f1], [.int .u8 x.f2], rfl, rfl, rfl⟩⟩
def rd_T36 (xs : List S36) (i : Int) : S36 := xs.getD i.toNat z36
theorem at_T36 {w : World} {A : Option Addr} {n : Nat} {xs : List S36} (h : Kd.C k36 w A n xs) (i : Int) (h0 : 0 ≤ i) (h1 : i < n) : ∃ ad , A = some ad ∧ w.cell? (ad.add (i.toNat * 3)) = some (.int .u8 (rd_T36 xs i).f0) ∧ w.cell? ⟨(ad.add (i.toNat * 3)).block, (ad.add (i.toNat * 3)).off + 1, none⟩ = some (.int .u8 (rd_T36 xs i).f1) ∧ w.cell? ⟨(ad.add (i.toNat * 3)).block, (ad.add (i.toNat * 3)).off + 2, none⟩ = some (.int .u8 (rd_T36 xs i).f2) := by
  obtain ⟨ad, c, e, _, hK, hc0⟩ := Kd.C_get h z36 i h0 h1
  have hc : ∀ j u, c[j]? = some u → w.cell? (ad.add (i.toNat * 3 + j)) = some u := hc0
  obtain rfl := k36_open hK
  exact ⟨ad, e, hc 0 _ rfl, by rw [← add_field _ _ 1 (by omega)]; exact hc 1 _ rfl, by rw [← add_field _ _ 2 (by omega)]; exact hc 2 _ rfl⟩
end Go.Proofs.YtcplaafmelcndaaGreatDoor.Pr
end
section
/- slices.IndexFunc, ContainsFunc, Clone, DeleteFunc at nodes, over their cells. -/
set_option linter.unusedVariables false
set_option linter.unusedSimpArgs false
set_option maxRecDepth 20000
namespace Go.Proofs.YtcplaafmelcndaaGreatDoor.At
open Go.RowKit Go.Lib Go.Proofs.YtcplaafmelcndaaGreatDoor.Pr Go.Proofs.YtcplaafmelcndaaGreatDoorW.PrintWords
/-- A node's cells. -/
structure Cel where
  f0 : Int
  f1 : ByteArray
  f2 : ByteArray
  A3 : Option Addr
  n3 : Nat
  c3 : Nat
  A4 : Option Addr
  n4 : Nat
  c4 : Nat
  f5 : ByteArray
def Cel.z : Cel := ⟨0, ⟨#[]⟩, ⟨#[]⟩, none, 0, 0, none, 0, 0, ⟨#[]⟩⟩
def Cel.enc (x : Cel) : List Value := [.int .i64 x.f0, .string x.f1, .string x.f2, .slice x.A3 x.n3 x.c3, .slice x.A4 x.n4 x.c4, .string x.f5]
theorem Cel.h1 (x : Cel) : ∀ v ∈ x.enc, v.oneCell' = true := by
  intro v hv
  unfold Cel.enc at hv
  simp only [List.mem_cons, List.not_mem_nil, or_false] at hv
  rcases hv with rfl | rfl | rfl | rfl | rfl | rfl <;> rfl
/-- Nodes' cells, as a kind. -/
def kCel : Kd Cel where
  sz := 6
  E := []
  K := fun _ x cs => cs = x.enc
  M := fun _ _ _ x cs => cs = x.enc
  K_len := fun h => by rw [h]; rfl
  K_one := fun {w x cs} h u hu => by rw [h] at hu; exact x.h1 u hu
  K_below := fun _ h => h
  K_of_M := fun h => h
  M_mono := fun _ h => h
  M_bound := fun h => h
  M_move := fun _ h => h
  M_lower := fun _ h => h
/-- The cells of an element of a row. -/
theorem cel_at {w : World} {A : Option Addr} {xs : List Cel} (h : Kd.C kCel w A xs.length xs) (i : Nat) (hi : i < xs.length) : ∃ ad, A = some ad ∧ w.cell? (ad.add (i * 6)) = some (.int .i64 xs[i].f0) ∧ w.cell? ⟨(ad.add (i * 6)).block, (ad.add (i * 6)).off + 1, none⟩ = some (.string xs[i].f1) ∧ w.cell? ⟨(ad.add (i * 6)).block, (ad.add (i * 6)).off + 2, none⟩ = some (.string xs[i].f2) ∧ w.cell? ⟨(ad.add (i * 6)).block, (ad.add (i * 6)).off + 3, none⟩ = some (.slice xs[i].A3 xs[i].n3 xs[i].c3) ∧ w.cell? ⟨(ad.add (i * 6)).block, (ad.add (i * 6)).off + 4, none⟩ = some (.slice xs[i].A4 xs[i].n4 xs[i].c4) ∧ w.cell? ⟨(ad.add (i * 6)).block, (ad.add (i * 6)).off + 5, none⟩ = some (.string xs[i].f5) := by
  obtain ⟨ad, c, e, _, hK, hc0⟩ := Kd.C_get h Cel.z (i : Int) (by omega) (by omega)
  have hc : ∀ j u, c[j]? = some u → w.cell? (ad.add (i * 6 + j)) = some u := hc0
  have hk : c = Cel.enc (xs.getD i Cel.z) := hK
  have hx : xs.getD i Cel.z = xs[i] := by simp [List.getD, hi]
  rw [hx] at hk
  subst hk
  exact ⟨ad, e, hc 0 _ rfl, by rw [← add_field _ _ 1 (by omega)]; exact hc 1 _ rfl, by rw [← add_field _ _ 2 (by omega)]; exact hc 2 _ rfl, by rw [← add_field _ _ 3 (by omega)]; exact hc 3 _ rfl, by rw [← add_field _ _ 4 (by omega)]; exact hc 4 _ rfl, by rw [← add_field _ _ 5 (by omega)]; exact hc 5 _ rfl⟩
theorem add0 (g m : Nat) : Addr.add ⟨g, 0, none⟩ m = ⟨g, m, none⟩ := by
  unfold Addr.add
  split
  · next h => rw [h]
  · simp
theorem cel_own {w : World} {g : Nat} {xs : List Cel} (h : Kd.C kCel w (some ⟨g, 0, none⟩) xs.length xs) (i : Nat) (hi : i < xs.length) : w.cell? ⟨g, i * 6, none⟩ = some (.int .i64 xs[i].f0) ∧ w.cell? ⟨g, i * 6 + 1, none⟩ = some (.string xs[i].f1) ∧ w.cell? ⟨g, i * 6 + 2, none⟩ = some (.string xs[i].f2) ∧ w.cell? ⟨g, i * 6 + 3, none⟩ = some (.slice xs[i].A3 xs[i].n3 xs[i].c3) ∧ w.cell? ⟨g, i * 6 + 4, none⟩ = some (.slice xs[i].A4 xs[i].n4 xs[i].c4) ∧ w.cell? ⟨g, i * 6 + 5, none⟩ = some (.string xs[i].f5) := by
  obtain ⟨ad, e, h0, h1, h2, h3, h4, h5⟩ := cel_at h i hi
  cases e
  rw [add0] at h0 h1 h2 h3 h4 h5
  exact ⟨h0, h1, h2, h3, h4, h5⟩
/-- What a function that is handed answers at each element of a row, in all worlds from here on. -/
def Says (g : Nat) (lb : Array Value) (p : Cel → Bool) (cs : List Cel) (w : World) : Prop :=
  ∀ c ∈ cs, ∀ w', Below w.heap.size w w' → Calls Tryz.prog g (#[.agg c.enc.toArray] ++ lb) w' fun e w'' => e = .returned (.bool (p c)) ∧ Below w'.heap.size w' w''
theorem Says.below {g : Nat} {lb : Array Value} {p : Cel → Bool} {cs : List Cel} {w w1 : World} (h : Says g lb p cs w) (hb : Below w.heap.size w w1) : Says g lb p cs w1 :=
  fun c hc w' h' => h c hc w' (hb.trans (h'.mono hb.size))
/-- Where the first one is; else -1. -/
def firstI (p : Cel → Bool) (cs : List Cel) : Int := if cs.any p then (cs.findIdx p : Int) else -1
set_option maxHeartbeats 1000000 in
theorem indexFunc (g : Nat) (lb : Array Value) (eg : ∀ args w, (callFunc g args).run Tryz.prog w = .ok (.enter g args) w) (p : Cel → Bool) (A : Option Addr) (cs : List Cel) (cc : Nat) (w : World) (hr : Kd.C kCel w A cs.length cs) (hs : Says g lb p cs w) (hl : cs.length ≤ 1000000000000) :
    Calls Tryz.prog 82 #[.slice A cs.length cc, .func (.func g) #[] lb] w fun e w' => e = .returned (.int .i64 (firstI p cs)) ∧ Below w.heap.size w w' := by
  have HR := Lib.hid hr
  have HS := Lib.hid hs
  have HL := Lib.hid hl
  clear hr hs
  have hlm : (cs.length : Int) < 9223372036854775807 := by omega
  clear hl
  go_enter Tryz.func82, Tryz.ntmps82
  go_wp2_with fail
  clear hlm
  go_loopg [8] cs.length (fun kx s8 wr => ∃ i : Nat, s8 = .int .i64 (i : Int) ∧ i ≤ cs.length ∧ cs.length - i ≤ kx ∧ Hid (Below w.heap.size w wr ∧ (∀ j (hj : j < cs.length), j < i → p cs[j] = false)))
  case atStart => exact ⟨0, rfl, by omega, by omega, ⟨Below.refl _ _, fun j hj h => absurd h (Nat.not_lt_zero _)⟩⟩
  case round =>
    obtain ⟨i, rfl, hi, hkx, HW⟩ := hrel
    by_cases hlt : i < cs.length
    · obtain ⟨ad, ea, hx0, hx1, hx2, hx3, hx4, hx5⟩ := cel_at (Kd.C_below HR.out HW.out.1) i hlt
      cases ea
      obtain ⟨y, hy⟩ : ∃ y, y = cs[i] := ⟨_, rfl⟩
      rw [← hy] at hx0 hx1 hx2 hx3 hx4 hx5
      have HY := Lib.hid hy
      have HI := Lib.hid (And.intro hlt hkx)
      have hcall := HS.out y (by rw [hy]; exact List.getElem_mem hlt) wr HW.out.1
      have HC := Lib.hid hcall
      clear hy hcall
      have p1 : decide ((0 : Int) ≤ (i : Int)) = true := decide_eq_true (by omega)
      have q1 : decide ((i : Int) < (cs.length : Int)) = true := decide_eq_true (by omega)
      have p2 := eq_true (show (0 : Int) ≤ (i : Int) by omega)
      have q2 := eq_true (show (i : Int) < (cs.length : Int) by omega)
      clear hi hkx
      go_wp2_with fail
      refine HC.out.mono ?_
      rintro e w2 ⟨rfl, hb2⟩
      have HB2 := Lib.hid (HW.out.1.trans (hb2.mono HW.out.1.size))
      clear hb2
      by_cases hp : p y = true
      · rw [hp]
        go_wp2_with fail
        go_ret
        refine ⟨?_, HB2.out⟩
        have hany : cs.any p = true := List.any_eq_true.2 ⟨y, by rw [HY.out]; exact List.getElem_mem HI.out.1, hp⟩
        have hfi : cs.findIdx p = i := by
          have h1 := HI.out.1
          have h2 : p cs[i] = true := by rw [← HY.out]; exact hp
          exact (List.findIdx_eq h1).2 ⟨h2, fun j hj => HW.out.2 j (by omega) hj⟩
        unfold firstI
        rw [if_pos hany, hfi]
        rfl
      · have hp' : p y = false := by simpa using hp
        rw [hp']
        go_wp2_with fail
        go_roundg (cs.length - (i + 1))
        case measure => have := HI.out; omega
        case rel => exact ⟨i + 1, by rw [Go.IntWalk.wrap64_in _ (by have := HI.out; have := HL.out; omega)]; rfl, by have := HI.out; omega, Nat.le_refl _, ⟨HB2.out, fun j hj h => by
          rcases Nat.lt_or_ge j i with h1 | h1
          · exact HW.out.2 j hj h1
          · obtain rfl : j = i := by omega
            rw [← HY.out]; exact hp'⟩⟩
    · obtain rfl : i = cs.length := by omega
      have q1 : decide ((cs.length : Int) < (cs.length : Int)) = false := decide_eq_false (by omega)
      clear hi hkx hlt
      go_wp2_with fail
      go_ret
      refine ⟨?_, HW.out.1⟩
      unfold firstI
      rw [if_neg]
      · rfl
      intro h
      obtain ⟨c, hc, hp⟩ := List.any_eq_true.1 h
      obtain ⟨j, hj, rfl⟩ := List.getElem_of_mem hc
      rw [HW.out.2 j hj hj] at hp
      cases hp
theorem firstI_pos (p : Cel → Bool) (cs : List Cel) : decide (firstI p cs ≥ 0) = cs.any p := by
  unfold firstI
  split
  · next h => rw [h]; exact decide_eq_true (by omega)
  · next h => rw [show cs.any p = false by simpa using h]; rfl
theorem containsFunc (g : Nat) (lb : Array Value) (eg : ∀ args w, (callFunc g args).run Tryz.prog w = .ok (.enter g args) w) (p : Cel → Bool) (A : Option Addr) (cs : List Cel) (cc : Nat) (w : World) (hr : Kd.C kCel w A cs.length cs) (hs : Says g lb p cs w) (hl : cs.length ≤ 1000000000000) :
    Calls Tryz.prog 52 #[.slice A cs.length cc, .func (.func g) #[] lb] w fun e w' => e = .returned (.bool (cs.any p)) ∧ Below w.heap.size w w' := by
  have h1 := indexFunc g lb eg p A cs cc w hr hs hl
  clear hr hs
  go_enter Tryz.func52, Tryz.ntmps52
  go_wp2_with (go_at_call 82; refine h1.mono ?_)
  rintro e w2 ⟨rfl, hb⟩
  go_wp2_with fail
  go_ret
  exact ⟨by rw [← firstI_pos]; rfl, hb⟩
theorem info25 : (Tryz.prog.info? 25).map (fun i => (i.zero, i.size, i.bytes)) = some (some (.agg #[(.int .i64 0), (.string ⟨#[]⟩), (.string ⟨#[]⟩), (.slice none 0 0), (.slice none 0 0), (.string ⟨#[]⟩)]), 6, 104) := by kernel_rfl
theorem size25 : (Tryz.prog.info? 25).map (·.size) = some 6 := by kernel_rfl
/-- The library's clone of a row of nodes. -/
theorem clone (A : Option Addr) (cc : Nat) (cs : List Cel) (w : World) (hr : Kd.C kCel w A cs.length cs) (hl : cs.length ≤ 1000000000000) :
    Calls Tryz.prog 50 #[.slice A cs.length cc] w fun e w' => ∃ v' : Value, e = .returned v' ∧ Kd.R kCel 25 w' w.heap.size (fun _ => True) v' cs ∧ Below w.heap.size w w' := by
  have q24 : ∀ (w : World) (a : Option Addr) (n c n' c' : Nat), (binOp .eql 23 (.slice a n c) (.slice none n' c')).run Tryz.prog w = .ok (.bool a.isNone) w := fun w a n c n' c' => Lib.run_eql_slice_nil w _ _ a n c n' c' Tryz.underlying23
  have HR := Lib.hid hr
  clear hr
  cases A with
  | none =>
    have h0 : cs = [] := by
      rcases Nat.eq_zero_or_pos cs.length with h0 | h0
      · exact List.eq_nil_of_length_eq_zero h0
      · obtain ⟨ad, h, _⟩ := HR.out.2.2 h0
        cases h
    subst h0
    go_enter Tryz.func50, Tryz.ntmps50
    go_wp2
    go_ret
    exact ⟨_, rfl, Kd.R_nil _ _ _ _ _, Below.refl _ _⟩
  | some ad =>
    have HO : Kd.R kCel 25 (w.alloc (.cells #[] 25)) w.heap.size (fun _ => True) (.slice (some ⟨w.heap.size, 0, none⟩) 0 0) [] := ⟨fun _ _ => trivial, [], World.ownsRow_made w #[] 0 (Nat.le_refl _) (Nat.zero_le _) (by simp), Reps.none _ _⟩
    have HB : Below w.heap.size w (w.alloc (.cells #[] 25)) := (Below.refl _ _).alloc (Nat.le_refl _) _
    have HR2 : Kd.C kCel (w.alloc (.cells #[] 25)) (some ad) cs.length cs := Kd.C_below HR.out HB
    have HH := Lib.hid (And.intro HO (And.intro HB HR2))
    clear HO HB HR2
    go_enter Tryz.func50, Tryz.ntmps50
    go_wp2_with (at_builtin; refine Kd.R_append_rows kCel w.heap.size rfl _ _ 23 25 _ 104 rfl Tryz.underlying23 info25 (by rfl) (by decide) (by decide) _ [] cs (some ad) cs.length cc (fun _ => True) (fun _ => False) rfl rfl HH.out.1 HH.out.2.2 (fun _ _ h => h) (fun _ h => h.elim) (fun _ _ => trivial) HH.out.2.1 (by simp) (by simp; omega) ?_)
    intro v1 w1 hr hb hg hat
    have HF := Lib.hid (And.intro hr hb)
    clear hr hb hg hat
    go_wp2
    go_ret
    exact ⟨_, rfl, HF.out.1, HF.out.2⟩
theorem R_cells {w : World} {base g n c : Nat} {ok : Nat → Prop} {cs : List Cel} (h : Kd.R kCel 25 w base ok (.slice (some ⟨g, 0, none⟩) n c) cs) : Kd.C kCel w (some ⟨g, 0, none⟩) cs.length cs := by
  exact (Kd.R_reads' h).2.2
/-- A row of zero elements' cells. -/
def zeros : Nat → List Value
  | 0 => []
  | m + 1 => Cel.z.enc ++ zeros m
theorem zeros_len (m : Nat) : (zeros m).length = m * 6 := by
  induction m with
  | zero => rfl
  | succ m ih => rw [zeros, List.length_append, ih]; simp [Cel.enc]; omega
theorem zeros_one (m : Nat) : ∀ v ∈ zeros m, v.oneCell' = true := by
  induction m with
  | zero => intro v hv; cases hv
  | succ m ih =>
    intro v hv
    rcases List.mem_append.1 hv with h | h
    · exact Cel.h1 _ v h
    · exact ih v h
theorem zeros_get (m : Nat) : ∀ (i : Nat) (h : i < (zeros m).length), (zeros m)[i] = Cel.z.enc[i % 6]'(Nat.mod_lt _ (by decide)) := by
  induction m with
  | zero => intro i h; exact absurd h (Nat.not_lt_zero _)
  | succ m ih =>
    intro i h
    have he : Cel.z.enc.length = 6 := rfl
    by_cases hi : i < 6
    · have h1 : (zeros (m + 1))[i] = Cel.z.enc[i]'(by omega) := List.getElem_append_left (by omega)
      rw [h1]
      congr 1
      omega
    · have h1 : (zeros (m + 1))[i] = (zeros m)[i - 6]'(by rw [zeros_len] at h ⊢; omega) := List.getElem_append_right (by omega)
      rw [h1, ih]
      congr 1
      omega
theorem setCells_append (b : Nat) (r : List Value) : ∀ (l : List Value) (o : Nat) (w : World), w.setCells b o (l ++ r) = (w.setCells b o l).setCells b (o + l.length) r
  | [], o, w => rfl
  | v :: l, o, w => by
    show (w.setCell ⟨b, o, none⟩ v).setCells b (o + 1) (l ++ r) = _
    rw [setCells_append b r l]
    show _ = ((w.setCell ⟨b, o, none⟩ v).setCells b (o + 1) l).setCells b (o + (l.length + 1)) r
    rw [show o + 1 + l.length = o + (l.length + 1) by omega]
theorem run_clear (w : World) (ty : TypeId) (g o n c : Nat) (hn : 0 < n) (hc : ∀ j, j < n * 6 → (w.cell? ⟨g, o + j, none⟩).isSome = true) (hf : ∀ j, j < n * 6 → w.frozen? ⟨g, o + j, none⟩ = false) :
    (Builtin.clear_ #[23] ty #[.slice (some ⟨g, o, none⟩) n c]).run Tryz.prog w = .ok (.tuple #[]) (w.setCells g o (zeros n)) := by
  have hzc : (Builtin.zeroCells (Value.agg #[(.int .i64 0), (.string ⟨#[]⟩), (.string ⟨#[]⟩), (.slice none 0 0), (.slice none 0 0), (.string ⟨#[]⟩)]).cells n).toList = zeros n := by
    apply List.ext_getElem
    · rw [zeros_len]; simp [Builtin.zeroCells, Value.cells]
    · intro i h1 h2
      rw [zeros_get]
      simp [Builtin.zeroCells, Value.cells, Cel.enc, Cel.z]
      have h6 : i % 6 < 6 := Nat.mod_lt _ (by decide)
      have h7 : i % 6 < Cel.z.enc.length := h6
      exact congrArg (fun o : Option Value => o.getD default) (List.getElem?_eq_getElem h7)
  have hst := run_storeCells_cells (P := Tryz.prog) g o (zeros n) 0 w (by rw [zeros_len]; simpa using hc) (by rw [zeros_len]; simpa using hf) (zeros_one n)
  simp only [Nat.add_zero] at hst
  obtain ⟨m, rfl⟩ : ∃ m, n = m + 1 := ⟨n - 1, by omega⟩
  simp [Builtin.clear_, run_underlying Tryz.underlying23, hzc, hst]
theorem R_zeros (g n cc : Nat) (w0 : World) : ∀ (m i : Nat) (W : World) (cur : List Cel), i + m = n → Kd.R kCel 25 W w0.heap.size (fun _ => True) (.slice (some ⟨g, 0, none⟩) n cc) cur → Below w0.heap.size w0 W →
    ∃ cur', cur'.take i = cur.take i ∧ Kd.R kCel 25 (W.setCells g (i * 6) (zeros m)) w0.heap.size (fun _ => True) (.slice (some ⟨g, 0, none⟩) n cc) cur' ∧ Below w0.heap.size w0 (W.setCells g (i * 6) (zeros m))
  | 0, i, W, cur, h, hR, hB => ⟨cur, rfl, hR, hB⟩
  | m + 1, i, W, cur, h, hR, hB => by
    have hlen : n = cur.length := (Kd.R_reads' hR).1
    obtain ⟨c0, c1, c2, c3, c4, c5⟩ := cel_own (R_cells hR) i (by omega)
    obtain ⟨h1, hg⟩ := Kd.R_seg hR (i : Int) (by omega) (by omega) (c := (cur[i]'(by omega)).enc) (seg := Cel.z.enc) (j := 0) rfl (by
      intro q u hq
      match q, hq with
      | 0, hq => cases hq; exact c0
      | 1, hq => cases hq; exact c1
      | 2, hq => cases hq; exact c2
      | 3, hq => cases hq; exact c3
      | 4, hq => cases hq; exact c4
      | 5, hq => cases hq; exact c5) (Nat.le_refl 6) (x' := Cel.z) (okp := fun _ => False) rfl (fun _ h => h.elim)
    have hbg : w0.heap.size ≤ g := Kd.R_base hR g (by simp [Value.ownBlock])
    have h2 : Kd.R kCel 25 (W.setCells g (i * 6) Cel.z.enc) w0.heap.size (fun _ => True) (.slice (some ⟨g, 0, none⟩) n cc) (cur.set i Cel.z) := h1
    have hg2 : W.grownBy (W.setCells g (i * 6) Cel.z.enc) (some g) := hg
    have hB2 : Below w0.heap.size w0 (W.setCells g (i * 6) Cel.z.enc) := hB.grown hg2 hB.size (fun k hk => by cases hk; exact hbg)
    obtain ⟨cur', e1, h3, h4⟩ := R_zeros g n cc w0 m (i + 1) _ _ (by omega) h2 hB2
    refine ⟨cur', ?_, ?_, ?_⟩
    · have := congrArg (List.take i) e1
      rw [List.take_take, List.take_take, Nat.min_eq_left (by omega), List.take_set_of_le (Nat.le_refl _)] at this
      exact this
    · rw [zeros, setCells_append]
      rwa [show (i + 1) * 6 = i * 6 + Cel.z.enc.length by show _ = i * 6 + 6; omega] at h3
    · rw [zeros, setCells_append]
      rwa [show (i + 1) * 6 = i * 6 + Cel.z.enc.length by show _ = i * 6 + 6; omega] at h4
theorem R_block {w : World} {base g n c : Nat} {ok : Nat → Prop} {cs : List Cel} (h : Kd.R kCel 25 w base ok (.slice (some ⟨g, 0, none⟩) n c) cs) : ∃ cells, w.heap[g]? = some (.cells cells 25 (0, 0)) := by
  obtain ⟨h0, inner, ho, hr⟩ := h
  obtain ⟨ho1, ho2⟩ := ho
  rcases ho2 with ⟨hv, _⟩ | hh
  · cases hv
  · obtain ⟨g1, cap, cur, he, _, hb, _⟩ := hh
    injection he with he1
    injection he1 with he2
    injection he2 with he3
    subst he3
    exact ⟨cur, hb⟩
theorem filter_start (p : Cel → Bool) (cs : List Cel) (i : Nat) (h : cs.findIdx p = i) (hi : i < cs.length) : cs.take i = (cs.take (i + 1)).filter (fun x => !p x) := by
  rw [List.take_succ_eq_append_getElem hi, List.filter_append]
  have h1 : ∀ j (hj : j < cs.length), j < i → p cs[j] = false := fun j hj hji => by
    have := List.not_of_lt_findIdx (xs := cs) (p := p) (i := j) (by omega)
    simpa using this
  have h2 : p cs[i] = true := by
    have h3 : cs.findIdx p < cs.length := by omega
    have h4 := List.findIdx_getElem (w := h3)
    simp only [h] at h4
    exact h4
  have h5 : (cs.take i).filter (fun x => !p x) = cs.take i := List.filter_eq_self.2 (fun x hx => by
    obtain ⟨j, hj, rfl⟩ := List.getElem_of_mem hx
    have hj' : j < i ∧ j < cs.length := by rw [List.length_take] at hj; omega
    rw [List.getElem_take, h1 j hj'.2 hj'.1]
    rfl)
  rw [h5]
  simp [h2]
set_option maxHeartbeats 2000000 in
theorem deleteFunc (gf : Nat) (lb : Array Value) (eg : ∀ args w, (callFunc gf args).run Tryz.prog w = .ok (.enter gf args) w) (p : Cel → Bool) (g : Nat) (cs : List Cel) (cc : Nat) (ws w : World) (hB : Below ws.heap.size ws w) (hO : Kd.R kCel 25 w ws.heap.size (fun _ => True) (.slice (some ⟨g, 0, none⟩) cs.length cc) cs) (hs : Says gf lb p cs ws) (hl : cs.length ≤ 1000000000000) :
    Calls Tryz.prog 49 #[.slice (some ⟨g, 0, none⟩) cs.length cc, .func (.func gf) #[] lb] w fun e w' => ∃ v', e = .returned v' ∧ Kd.R kCel 25 w' ws.heap.size (fun _ => True) v' (cs.filter fun x => !p x) ∧ Below ws.heap.size ws w' := by
  have h1 := indexFunc gf lb eg p (some ⟨g, 0, none⟩) cs cc w (R_cells hO) (hs.below hB) hl
  have HO := Lib.hid hO
  have HS := Lib.hid hs
  have HB := Lib.hid hB
  have HL := Lib.hid hl
  clear hO hs hB
  by_cases hany : cs.any p = true
  · have hf : firstI p cs = (cs.findIdx p : Int) := by unfold firstI; rw [if_pos hany]
    have hi : cs.findIdx p < cs.length := by
      obtain ⟨x, hx, hp⟩ := List.any_eq_true.1 hany
      exact List.findIdx_lt_length_of_exists ⟨x, hx, hp⟩
    rw [hf] at h1
    generalize hfi : cs.findIdx p = fi at h1 hi
    have HF := Lib.hid hfi
    have hlm : (cs.length : Int) < 9223372036854775807 := by omega
    have hne : ((fi : Int) == -1) = false := by first | (simp; done) | (simp; omega)
    clear hf hfi hl
    go_enter Tryz.func49, Tryz.ntmps49
    go_wp2_with (go_at_call 82; refine h1.mono ?_)
    rintro e w2 ⟨rfl, hb⟩
    clear h1
    go_wp2_with fail
    have HB2 := Lib.hid (HB.out.trans (hb.mono HB.out.size))
    have HO2 := Lib.hid (Kd.R_below HO.out hb)
    have HFI := Lib.hid (And.intro hi hlm)
    clear hb hne hlm HO HB
    go_loopg [5, 6] cs.length (fun kx s5 s6 wr => ∃ i j : Nat, s5 = .int .i64 (i : Int) ∧ s6 = .int .i64 (j : Int) ∧ i < j ∧ j ≤ cs.length ∧ cs.length - j ≤ kx ∧ Hid (Below ws.heap.size ws wr ∧ ∃ cur : List Cel, cur.length = cs.length ∧ cur.take i = (cs.take j).filter (fun x => !p x) ∧ cur.drop j = cs.drop j ∧ Kd.R kCel 25 wr ws.heap.size (fun _ => True) (.slice (some ⟨g, 0, none⟩) cs.length cc) cur))
    case atStart => exact ⟨fi, fi + 1, rfl, by go_num, by omega, by omega, by omega, ⟨HB2.out, cs, rfl, filter_start p cs fi HF.out HFI.out.1, rfl, HO2.out⟩⟩
    case round =>
      obtain ⟨i, j, rfl, rfl, hij, hj, hkx, HW⟩ := hrel
      obtain ⟨hw1, cur, hw2, hw3, hw4, hw5⟩ := HW.out
      have HW1 := Lib.hid hw1
      have HW2 := Lib.hid hw2
      have HW3 := Lib.hid hw3
      have HW4 := Lib.hid hw4
      have HW5 := Lib.hid hw5
      clear hw1 hw2 hw3 hw4 hw5 HW
      by_cases hlt : j < cs.length
      · obtain ⟨hx0, hx1, hx2, hx3, hx4, hx5⟩ := cel_own (R_cells HW5.out) j (by rw [HW2.out]; exact hlt)
        have hcur : cur[j]'(by rw [HW2.out]; exact hlt) = cs[j] := by
          have h1 : (cur.drop j)[0]? = (cs.drop j)[0]? := by rw [HW4.out]
          rw [List.getElem?_drop, List.getElem?_drop, Nat.add_zero, List.getElem?_eq_getElem (by rw [HW2.out]; exact hlt), List.getElem?_eq_getElem hlt] at h1
          exact Option.some.inj h1
        rw [hcur] at hx0 hx1 hx2 hx3 hx4 hx5
        obtain ⟨y, hy⟩ : ∃ y, y = cs[j] := ⟨_, rfl⟩
        rw [← hy] at hx0 hx1 hx2 hx3 hx4 hx5
        have HY := Lib.hid hy
        have HI := Lib.hid (And.intro hlt (And.intro hkx hij))
        have hbw : Below ws.heap.size ws (wr.alloc (.cells y.enc.toArray 25)) := HW1.out.alloc HW1.out.size _
        have hcall := HS.out y (by rw [hy]; exact List.getElem_mem hlt) _ hbw
        have HC := Lib.hid hcall
        have HBA := Lib.hid hbw
        clear hy hcall hbw hcur
        have p1 : decide ((0 : Int) ≤ (j : Int)) = true := decide_eq_true (by omega)
        have q1 : decide ((j : Int) < (cs.length : Int)) = true := decide_eq_true (by omega)
        have p2 := eq_true (show (0 : Int) ≤ (j : Int) by omega)
        have q2 := eq_true (show (j : Int) < (cs.length : Int) by omega)
        clear hij hj hkx hi
        go_wp2_with fail
        refine HC.out.mono ?_
        rintro e w2 ⟨rfl, hb2⟩
        have hbk : w2.heap[wr.heap.size]? = some (.cells y.enc.toArray 25 (0, 0)) := (hb2.block _ (by simp)).trans (heap_alloc_new wr _)
        have HBK := Lib.hid hbk
        have HB3 := Lib.hid (HBA.out.trans (hb2.mono HBA.out.size))
        have hbr : Below wr.heap.size wr w2 := ((Below.refl _ _).alloc (Nat.le_refl _) _).trans (hb2.mono (by simp))
        have HO3 := Lib.hid (Kd.R_below HW5.out hbr)
        clear hb2 hbk hbr hx0 hx1 hx2 hx3 hx4 hx5
        by_cases hp : p y = true
        · rw [hp]
          have hf2 : (cs.take (j + 1)).filter (fun x => !p x) = (cs.take j).filter (fun x => !p x) := by
            rw [List.take_succ_eq_append_getElem HI.out.1, List.filter_append, ← HY.out]
            simp [hp]
          have HF2 := Lib.hid hf2
          clear hf2 hp
          go_wp2_with fail
          go_roundg (cs.length - (j + 1))
          case measure => have := HI.out; omega
          case rel => exact ⟨i, j + 1, rfl, by rw [Go.IntWalk.wrap64_in _ (by have := HI.out; have := HL.out; omega)]; rfl, by have := HI.out; omega, by have := HI.out; omega, Nat.le_refl _, ⟨HB3.out, cur, HW2.out, by rw [HF2.out]; exact HW3.out, by rw [← List.drop_drop, ← List.drop_drop, HW4.out], HO3.out⟩⟩
        · have hp' : p y = false := by simpa using hp
          rw [hp']
          have hic : i < cur.length := by have := HI.out; have := HW2.out; omega
          have hf2 : (cs.take (j + 1)).filter (fun x => !p x) = (cs.take j).filter (fun x => !p x) ++ [y] := by
            rw [List.take_succ_eq_append_getElem HI.out.1, List.filter_append, ← HY.out]
            simp [hp']
          have HF2 := Lib.hid hf2
          have HIC := Lib.hid hic
          have b0 : w2.cell? ⟨wr.heap.size, 0, none⟩ = some (.int .i64 y.f0) := (blk_cell HBK.out 0).trans rfl
          have b1 : w2.cell? ⟨wr.heap.size, 1, none⟩ = some (.string y.f1) := (blk_cell HBK.out 1).trans rfl
          have b2 : w2.cell? ⟨wr.heap.size, 2, none⟩ = some (.string y.f2) := (blk_cell HBK.out 2).trans rfl
          have b3 : w2.cell? ⟨wr.heap.size, 3, none⟩ = some (.slice y.A3 y.n3 y.c3) := (blk_cell HBK.out 3).trans rfl
          have b4 : w2.cell? ⟨wr.heap.size, 4, none⟩ = some (.slice y.A4 y.n4 y.c4) := (blk_cell HBK.out 4).trans rfl
          have b5 : w2.cell? ⟨wr.heap.size, 5, none⟩ = some (.string y.f5) := (blk_cell HBK.out 5).trans rfl
          have p3 : decide ((0 : Int) ≤ (i : Int)) = true := decide_eq_true (by omega)
          have q3 : decide ((i : Int) < (cs.length : Int)) = true := decide_eq_true (by have := HI.out; omega)
          have p4 := eq_true (show (0 : Int) ≤ (i : Int) by omega)
          have q4 := eq_true (show (i : Int) < (cs.length : Int) by have := HI.out; omega)
          clear hf2 hp hp' hic
          go_wp2_with ((with_reducible refine gate_ (.store 25 (.tmp 33) (.tmp 32)) rfl ?_); refine Kd.R_store kCel (w0 := ws) (W := w2) ws.heap.size rfl rfl 25 (.tmp 33) (.tmp 32) rfl 25 (i : Int) 0 cur y (.agg y.enc.toArray) y.enc (cur[i]'(HIC.out)).enc (fun _ => True) (fun _ => False) rfl ?a2 rfl rfl ?a5 y.h1 HO3.out ?a7 ?a8 rfl ?a10 ?a11 rfl ?a13 HB3.out ?_)
          case a2 => simp [kCel]
          case a5 => exact size25
          case a7 => omega
          case a8 => have := HI.out; omega
          case a10 =>
            intro m u hm
            obtain ⟨c0, c1, c2, c3, c4, c5⟩ := cel_own (R_cells HO3.out) i HIC.out
            match m, hm with
            | 0, hm => cases hm; exact c0
            | 1, hm => cases hm; exact c1
            | 2, hm => cases hm; exact c2
            | 3, hm => cases hm; exact c3
            | 4, hm => cases hm; exact c4
            | 5, hm => cases hm; exact c5
          case a11 => exact Nat.le_refl 6
          case a13 => exact fun _ h => h.elim
          intro w3 hO4 hB4 _
          have HO4 := Lib.hid hO4
          have HB4 := Lib.hid hB4
          clear hO4 hB4
          go_wp2_with fail
          go_roundg (cs.length - (j + 1))
          case measure => have := HI.out; omega
          case rel => exact ⟨i + 1, j + 1, by rw [Go.IntWalk.wrap64_in _ (by have := HI.out; have := HL.out; omega)]; rfl, by rw [Go.IntWalk.wrap64_in _ (by have := HI.out; have := HL.out; omega)]; rfl, by have := HI.out; omega, by have := HI.out; omega, Nat.le_refl _, ⟨HB4.out, cur.set i y, by rw [List.length_set]; exact HW2.out, by
            rw [HF2.out, ← HW3.out, List.take_succ_eq_append_getElem (by rw [List.length_set]; exact HIC.out), List.getElem_set_self, List.take_set_of_le (Nat.le_refl _)], by
            rw [List.drop_set_of_lt (by have := HI.out; omega), ← List.drop_drop, ← List.drop_drop, HW4.out], HO4.out⟩⟩
      · obtain rfl : j = cs.length := by omega
        have hil : i < cur.length := by have := HW2.out; omega
        have hcc : cs.length ≤ cc := (Kd.R_reads' HW5.out).2.1
        have hf3 : cur.take i = cs.filter (fun x => !p x) := by rw [HW3.out, List.take_length]
        have q1 : decide ((cs.length : Int) < (cs.length : Int)) = false := decide_eq_false (by omega)
        have HF3 := Lib.hid hf3
        have HIL := Lib.hid (And.intro hil hcc)
        have p3 : decide ((0 : Int) ≤ (i : Int)) = true := decide_eq_true (by omega)
        have q3 : decide ((i : Int) ≤ (cs.length : Int)) = true := decide_eq_true (by have := HW2.out; omega)
        have p4 := eq_true (show (0 : Int) ≤ (i : Int) by omega)
        have q4 := eq_true (show (i : Int) ≤ (cs.length : Int) by have := HW2.out; omega)
        have p5 := eq_true (show (i : Int) ≤ (cc : Int) by have := HIL.out; have := HW2.out; omega)
        have q5 : decide ((i : Int) ≤ (cc : Int)) = true := decide_eq_true (by have := HIL.out; have := HW2.out; omega)
        have hcl := run_clear wr 0 g (i * 6) (cs.length - i) (cc - i) (by have := HW2.out; omega) (by
          intro q hq
          obtain ⟨c0, c1, c2, c3, c4, c5⟩ := cel_own (R_cells HW5.out) (i + q / 6) (by have := HW2.out; omega)
          have e1 : i * 6 + q = (i + q / 6) * 6 + q % 6 := by omega
          rw [e1]
          have e2 : q % 6 < 6 := Nat.mod_lt _ (by decide)
          match h : q % 6, e2 with
          | 0, _ => rw [Nat.add_zero, c0]; rfl
          | 1, _ => rw [c1]; rfl
          | 2, _ => rw [c2]; rfl
          | 3, _ => rw [c3]; rfl
          | 4, _ => rw [c4]; rfl
          | 5, _ => rw [c5]; rfl) (by
          intro q hq
          exact blk_frozen (R_block HW5.out).choose_spec _)
        obtain ⟨cur', e1, hR9, hB9⟩ := R_zeros g cs.length cc ws (cs.length - i) i wr cur (by have := HW2.out; omega) HW5.out HW1.out
        have HCL := Lib.hid hcl
        have HR9 := Lib.hid hR9
        have HB9 := Lib.hid hB9
        have HE := Lib.hid e1
        clear hf3 hil hj hkx hij hi hlt hcc hcl hR9 hB9 e1
        go_wp2_with fail
        · exact absurd HIL.out (by have := HW2.out; omega)
        · rw [HCL.out]
          simp only [Result.andThen]
          rw [Oper.upon_value]
          go_wp2_with fail
          go_ret
          refine ⟨_, rfl, ?_, HB9.out⟩
          have h1 := Kd.R_take (m := i) HR9.out (by have := (Kd.R_reads' HR9.out).1; have := HIL.out; have := HW2.out; omega)
          rw [HE.out, HF3.out] at h1
          exact h1
  · have hf : firstI p cs = -1 := by unfold firstI; rw [if_neg hany]
    rw [hf] at h1
    go_enter Tryz.func49, Tryz.ntmps49
    go_wp2_with (go_at_call 82; refine h1.mono ?_)
    rintro e w2 ⟨rfl, hb⟩
    go_wp2_with fail
    go_ret
    refine ⟨_, rfl, ?_, HB.out.trans (hb.mono HB.out.size)⟩
    rw [List.filter_eq_self.2 (fun x hx => by
      have : p x = false := by
        cases h : p x with
        | false => rfl
        | true => exact absurd (List.any_eq_true.2 ⟨x, hx, h⟩) hany
      simp [this])]
    exact Kd.R_below HO.out hb
end Go.Proofs.YtcplaafmelcndaaGreatDoor.At
end
section
/- atom.All by hand: the kids of Atom of a name, in the printer's form; atom.plain. -/
set_option linter.unusedVariables false
set_option linter.unusedSimpArgs false
set_option maxRecDepth 20000
namespace Go.Proofs.YtcplaafmelcndaaGreatDoor.At
open Go.RowKit Go.Lib Go.Proofs.YtcplaafmelcndaaGreatDoor.Pr Go.Proofs.YtcplaafmelcndaaGreatDoorW.PrintWords Go.Proofs.YtcplaafmelcndaaGreatDoorW.PrintMore
/-- A node, and its cells. -/
structure Pm where
  x : S25
  c : Cel
  e0 : c.f0 = x.f0
  e1 : c.f1 = x.f1
  e2 : c.f2 = x.f2
  e3 : c.n3 = x.f3.length
  e4 : c.n4 = x.f4.length
  e5 : c.f5 = x.f5
/-- Nodes that are read, each with its cells. -/
theorem pairs_of (Q : S25 → List Value → Prop) (hQ : ∀ x c, Q x c → ∃ p : Pm, p.x = x ∧ p.c.enc = c) : ∀ (xs : List S25) (cs : List (List Value)), cs.length = xs.length → (∀ (j : Nat) (x : S25) (c : List Value), xs[j]? = some x → cs[j]? = some c → Q x c) →
    ∃ Z : List Pm, Z.map (·.x) = xs ∧ Z.map (·.c.enc) = cs ∧ ∀ z ∈ Z, Q z.x z.c.enc
  | [], [], _, _ => ⟨[], rfl, rfl, fun z hz => by simp at hz⟩
  | [], _ :: _, h, _ => by simp at h
  | _ :: _, [], h, _ => by simp at h
  | x :: xs, c :: cs, h, hf => by
    obtain ⟨Z, h1, h2, h3⟩ := pairs_of Q hQ xs cs (by simpa using h) (fun j x c hx hc => hf (j + 1) x c (by simpa using hx) (by simpa using hc))
    have h0 := hf 0 x c rfl rfl
    obtain ⟨p, hp1, hp2⟩ := hQ x c h0
    refine ⟨p :: Z, by rw [List.map_cons, h1, hp1], by rw [List.map_cons, h2, hp2], fun z hz => ?_⟩
    rcases List.mem_cons.1 hz with rfl | hz
    · rw [hp1, hp2]; exact h0
    · exact h3 z hz
theorem pm_of {w : World} (x : S25) (c : List Value) (h : k25.K w x c) : ∃ p : Pm, p.x = x ∧ p.c.enc = c := by
  obtain ⟨A3, c3, A4, c4, rfl, _⟩ := k25_open h
  exact ⟨⟨x, ⟨x.f0, x.f1, x.f2, A3, x.f3.length, c3, A4, x.f4.length, c4, x.f5⟩, rfl, rfl, rfl, rfl, rfl, rfl⟩, rfl, rfl⟩
/-- Cells that are read as nodes' cells. -/
theorem cels_read {w : World} {A : Option Addr} {n : Nat} {Z : List Pm} (h : ReadsRow (fun x cs => cs = x ∧ cs.length = k25.sz ∧ ∀ u ∈ cs, u.oneCell' = true) k25.sz w A n (Z.map (·.c.enc))) : Kd.C kCel w A n (Z.map (·.c)) := by
  obtain ⟨h1, h2, h3⟩ := h
  refine ⟨by simpa using h1, h2, fun hn => ?_⟩
  obtain ⟨ad, rfl, hc⟩ := h3 hn
  refine ⟨ad, rfl, fun j p hj => ?_⟩
  have hj' : (Z.map (·.c.enc))[j]? = some p.enc := by
    rw [List.getElem?_map] at hj ⊢
    obtain ⟨z, hz, rfl⟩ := Option.map_eq_some_iff.1 hj
    rw [hz]; rfl
  obtain ⟨c, hc1, hc2, hc3⟩ := hc j _ hj'
  exact ⟨c, hc1, hc2.1, hc3⟩
/-- The rows of a node of which the cells are known. -/
theorem pm_rows {w : World} (z : Pm) (h : k25.K w z.x z.c.enc) : z.x.f3.length ≤ z.c.c3 ∧ Kd.C k41 w z.c.A3 z.x.f3.length z.x.f3 ∧ z.x.f4.length ≤ z.c.c4 ∧ Kd.C k25 w z.c.A4 z.x.f4.length z.x.f4 := by
  obtain ⟨A3, c3, A4, c4, e, l3, g3, l4, g4⟩ := k25_open h
  unfold Cel.enc at e
  simp only [List.cons.injEq, Value.slice.injEq] at e
  obtain ⟨_, _, _, ⟨rfl, _, rfl⟩, ⟨rfl, _, rfl⟩, _⟩ := e
  exact ⟨l3, g3, l4, g4⟩
def atomB : ByteArray := ⟨#[104, 116, 116, 112, 58, 47, 47, 119, 119, 119, 46, 119, 51, 46, 111, 114, 103, 47, 50, 48, 48, 53, 47, 65, 116, 111, 109]⟩
/-- atom.Is, as a plain test. -/
def isV (x : S25) (space name : ByteArray) : Bool := decide (x.f0 = 0) && (x.f1.toList == space.toList) && (x.f2.toList == name.toList)
def isC (c : Cel) (space name : ByteArray) : Bool := decide (c.f0 = 0) && (c.f1.toList == space.toList) && (c.f2.toList == name.toList)
theorem is_any (x : S25) (v3 v4 : Value) (h3 : v3.oneCell' = true) (h4 : v4.oneCell' = true) (A3 A4 : Option Addr) (n3 c3 n4 c4 : Nat) (e3 : v3 = .slice A3 n3 c3) (e4 : v4 = .slice A4 n4 c4) (space name : ByteArray) (w : World) :
    Calls Tryz.prog 24 #[.agg #[.int .i64 x.f0, .string x.f1, .string x.f2, v3, v4, .string x.f5], .string space, .string name] w fun e w' => e = .returned (.bool (isV x space name)) ∧ Below w.heap.size w w' := by
  subst e3 e4
  clear h3 h4
  obtain ⟨R, hR⟩ : ∃ r, isV x space name = r := ⟨_, rfl⟩
  rw [hR]
  unfold isV at hR
  have HR := Lib.hid hR
  clear hR
  have HB := Lib.hid ((Below.refl w.heap.size w).alloc (Nat.le_refl _) (.cells #[.int .i64 x.f0, .string x.f1, .string x.f2, .slice A3 n3 c3, .slice A4 n4 c4, .string x.f5] 25))
  by_cases h0 : x.f0 = 0
  · have g0 : (x.f0 == 0) = true := by simp [h0]
    have d0 : decide (x.f0 = 0) = true := decide_eq_true h0
    by_cases h1 : x.f1.toList = space.toList
    · have g1 : (x.f1.toList == space.toList) = true := by simp [h1]
      have hr2 : (x.f2.toList == name.toList) = R := by rw [← HR.out, d0, g1]; rfl
      clear h0 d0 h1
      go_enter Tryz.func24, Tryz.ntmps24
      go_wp2_with fail
      go_ret
      exact ⟨rfl, HB.out⟩
    · have g1 : (x.f1.toList == space.toList) = false := by simp [h1]
      have hr : R = false := by rw [← HR.out, d0, g1]; rfl
      have HR2 := Lib.hid hr
      clear h0 d0 h1 hr
      go_enter Tryz.func24, Tryz.ntmps24
      go_wp2_with fail
      go_ret
      exact ⟨by rw [HR2.out]; rfl, HB.out⟩
  · have g0 : (x.f0 == 0) = false := by simp [h0]
    have hr : R = false := by rw [← HR.out, decide_eq_false h0]; rfl
    have HR2 := Lib.hid hr
    clear h0 hr
    go_enter Tryz.func24, Tryz.ntmps24
    go_wp2_with fail
    go_ret
    exact ⟨by rw [HR2.out]; rfl, HB.out⟩
/-- The closure of atom.All. -/
theorem all1 (Z : List Pm) (name : ByteArray) (bn : Nat) (w : World) (hn : w.cell? ⟨bn, 0, none⟩ = some (.string name)) (hz : ∀ z ∈ Z, k25.K w z.x z.c.enc) :
    Says 51 #[.pointer (some ⟨bn, 0, none⟩)] (fun c => !isC c atomB name) (Z.map (·.c)) w := by
  intro c hc w' hb
  obtain ⟨z, hzz, rfl⟩ := List.mem_map.1 hc
  obtain ⟨l3, g3, l4, g4⟩ := pm_rows z (hz z hzz)
  have hn' : w'.cell? ⟨bn, 0, none⟩ = some (.string name) := (hb.cell (World.block_lt_of_cell? w _ hn)).trans hn
  obtain ⟨x, ⟨y0, y1, y2, A3, n3, c3, A4, n4, c4, y5⟩, e0, e1, e2, e3, e4, e5⟩ := z
  simp only at e0 e1 e2 e3 e4 e5 l3 g3 l4 g4
  subst e0 e1 e2 e3 e4 e5
  have G3 := Lib.hid (Kd.C_below g3 hb)
  have G4 := Lib.hid (Kd.C_below g4 hb)
  have L3 := Lib.hid l3
  have L4 := Lib.hid l4
  clear g3 g4 l3 l4 hz hzz hc hn hb
  show Calls Tryz.prog 51 #[.agg #[.int .i64 x.f0, .string x.f1, .string x.f2, .slice A3 x.f3.length c3, .slice A4 x.f4.length c4, .string x.f5], .pointer (some ⟨bn, 0, none⟩)] w' _
  have hn2 : (w'.alloc (.cells #[.int .i64 x.f0, .string x.f1, .string x.f2, .slice A3 x.f3.length c3, .slice A4 x.f4.length c4, .string x.f5] 25)).cell? ⟨bn, 0, none⟩ = some (.string name) := Lib.cell?_alloc_some _ hn'
  have HB := Lib.hid ((Below.refl w'.heap.size w').alloc (Nat.le_refl _) (.cells #[.int .i64 x.f0, .string x.f1, .string x.f2, .slice A3 x.f3.length c3, .slice A4 x.f4.length c4, .string x.f5] 25))
  go_enter Tryz.func51, Tryz.ntmps51
  go_wp2_with (go_at_call 24; refine (is_any x _ _ rfl rfl A3 A4 _ c3 _ c4 rfl rfl atomB name _).mono ?_)
  rintro e w2 ⟨rfl, hb2⟩
  go_wp2_with fail
  go_ret
  exact ⟨rfl, HB.out.trans (hb2.mono HB.out.size)⟩
/-- DeleteFunc, whatever row of the call's own. -/
theorem delete (gf : Nat) (lb : Array Value) (eg : ∀ args w, (callFunc gf args).run Tryz.prog w = .ok (.enter gf args) w) (p : Cel → Bool) (v : Value) (cs : List Cel) (ws w : World) (hB : Below ws.heap.size ws w) (hO : Kd.R kCel 25 w ws.heap.size (fun _ => True) v cs) (hs : Says gf lb p cs ws) (hl : cs.length ≤ 1000000000000) :
    Calls Tryz.prog 49 #[v, .func (.func gf) #[] lb] w fun e w' => ∃ v', e = .returned v' ∧ Kd.R kCel 25 w' ws.heap.size (fun _ => True) v' (cs.filter fun x => !p x) ∧ Below ws.heap.size ws w' := by
  obtain ⟨A, c, rfl⟩ := Kd.R_slice hO
  cases A with
  | some ad =>
    have hoff : ad = ⟨ad.block, 0, none⟩ := by
      obtain ⟨_, inner, ⟨_, ho2⟩, _⟩ := hO
      rcases ho2 with ⟨hv, _⟩ | ⟨g1, cap, cur, he, _⟩
      · cases hv
      · injection he with he1
        injection he1 with he2
        rw [he2]
    rw [hoff] at hO ⊢
    exact deleteFunc gf lb eg p ad.block cs c ws w hB hO hs hl
  | none =>
    have h0 : cs = [] := by
      obtain ⟨_, inner, ⟨_, ho2⟩, _⟩ := hO
      rcases ho2 with ⟨hv, hn⟩ | ⟨g1, cap, cur, he, _⟩
      · exact List.eq_nil_of_length_eq_zero hn
      · injection he with he1
        cases he1
    subst h0
    have h1 := indexFunc gf lb eg p none [] c w (Kd.R_reads' hO).2.2 (hs.below hB) hl
    have hf : firstI p [] = -1 := rfl
    rw [hf] at h1
    have HO := Lib.hid hO
    have HB := Lib.hid hB
    clear hO hB hs hl
    go_enter Tryz.func49, Tryz.ntmps49
    go_wp2_with (go_at_call 82; refine h1.mono ?_)
    rintro e w2 ⟨rfl, hb⟩
    go_wp2_with fail
    go_ret
    exact ⟨_, rfl, Kd.R_below HO.out hb, HB.out.trans (hb.mono HB.out.size)⟩
theorem isC_V (z : Pm) (space name : ByteArray) : isC z.c space name = isV z.x space name := by
  unfold isC isV
  rw [z.e0, z.e1, z.e2]
/-- The kids of Atom of a name. -/
def allV (l : List S25) (name : ByteArray) : List S25 := l.filter fun x => isV x atomB name
/-- The closure of atom.plain. -/
theorem plain1 (cs : List Cel) (w : World) : Says 76 #[] (fun c => decide (c.f0 = 0)) cs w := by
  intro c hc w' hb
  obtain ⟨y0, y1, y2, A3, n3, c3, A4, n4, c4, y5⟩ := c
  clear hc hb
  show Calls Tryz.prog 76 #[.agg #[.int .i64 y0, .string y1, .string y2, .slice A3 n3 c3, .slice A4 n4 c4, .string y5]] w' _
  have HB := Lib.hid ((Below.refl w'.heap.size w').alloc (Nat.le_refl _) (.cells #[.int .i64 y0, .string y1, .string y2, .slice A3 n3 c3, .slice A4 n4 c4, .string y5] 25))
  go_enter Tryz.func76, Tryz.ntmps76
  go_wp2_with fail
  go_ret
  refine ⟨?_, HB.out⟩
  have : (y0 == 0) = decide (y0 = 0) := rfl
  first | rfl | (simp; done)
/-- Has a node no elements in it? -/
def plainV (l : List S25) : Bool := !(l.any fun x => decide (x.f0 = 0))
def atom_plain.f (k : Nat) (a0_0 : Int) (a0_1 : ByteArray) (a0_2 : ByteArray) (l0_3 : List (S41)) (l0_4 : List (S25)) (a0_5 : ByteArray) : Option (Bool) := if l0_4.length ≤ 1000000000000 then some (plainV l0_4) else none
/-- A row of nodes that is read, as cells. -/
theorem cels_of {w : World} {A : Option Addr} {l : List S25} (h : Kd.C k25 w A l.length l) : ∃ Z : List Pm, Z.map (·.x) = l ∧ Kd.C kCel w A (Z.map (·.c)).length (Z.map (·.c)) ∧ ∀ z ∈ Z, k25.K w z.x z.c.enc := by
  obtain ⟨news, hnl, hnr, hnf⟩ := Kd.reads_raw h (fun y c hk => ⟨k25.K_len hk, k25.K_one hk⟩)
  obtain ⟨Z, h1, h2, h3⟩ := pairs_of (fun x c => k25.K w x c) (fun x c h => pm_of x c h) l news hnl hnf
  subst h1 h2
  have hC := cels_read hnr
  have hlen : (Z.map (·.c)).length = (Z.map (·.x)).length := by simp
  rw [← hlen] at hC
  exact ⟨Z, rfl, hC, h3⟩
theorem atom_plain.calls (k : Nat) (a0_0 : Int) (a0_1 : ByteArray) (a0_2 : ByteArray) (A0_3 : Option Addr) (c0_3 : Nat) (l0_3 : List (S41)) (A0_4 : Option Addr) (c0_4 : Nat) (l0_4 : List (S25)) (a0_5 : ByteArray) (r : Bool) (w : World) (hr0_3 : Kd.C k41 w A0_3 l0_3.length l0_3) (hc0_3 : l0_3.length ≤ c0_3) (hr0_4 : Kd.C k25 w A0_4 l0_4.length l0_4) (hc0_4 : l0_4.length ≤ c0_4) (h : atom_plain.f k a0_0 a0_1 a0_2 l0_3 l0_4 a0_5 = some r) :
    Calls Tryz.prog 42 #[.agg #[.int .i64 a0_0, .string a0_1, .string a0_2, .slice A0_3 l0_3.length c0_3, .slice A0_4 l0_4.length c0_4, .string a0_5]] w fun e w' => e = .returned (.bool r) ∧ Below w.heap.size w w' := by
  unfold atom_plain.f at h
  split at h
  case isFalse => cases h
  case isTrue hl =>
    obtain rfl := Option.some.inj h
    obtain ⟨Z, rfl, hC, hK⟩ := cels_of hr0_4
    rw [List.length_map] at hl ⊢
    obtain ⟨W1, hW1⟩ : ∃ W1, W1 = w.alloc (.cells #[.int .i64 a0_0, .string a0_1, .string a0_2, .slice A0_3 l0_3.length c0_3, .slice A0_4 Z.length c0_4, .string a0_5] 25) := ⟨_, rfl⟩
    have hB1 : Below w.heap.size w W1 := by rw [hW1]; exact (Below.refl _ _).alloc (Nat.le_refl _) _
    have hcon := containsFunc 76 #[] (fun args w => rfl) (fun c => decide (c.f0 = 0)) A0_4 (Z.map (·.c)) c0_4 W1 (Kd.C_below hC hB1) (plain1 _ _) (by rw [List.length_map]; exact hl)
    rw [List.length_map] at hcon
    have hany : plainV (Z.map (·.x)) = !((Z.map (·.c)).any fun c => decide (c.f0 = 0)) := by
      unfold plainV
      rw [List.any_map, List.any_map]
      congr 2
      funext z
      simp [z.e0]
    rw [hany, List.any_map]
    have HW := Lib.hid hW1
    have HC := Lib.hid hcon
    have HB1 := Lib.hid hB1
    clear hcon hB1 hC hK hr0_4 hr0_3 hc0_3 hc0_4 hW1 hl hany
    go_enter Tryz.func42, Tryz.ntmps42
    go_wp2_with (first | (go_at_call 52; rw [← HW.out]; refine HC.out.mono ?_))
    rintro e w2 rfl hb
    go_wp2_with fail
    go_ret
    exact ⟨rfl, HB1.out.trans (hb.mono HB1.out.size)⟩
end Go.Proofs.YtcplaafmelcndaaGreatDoor.At
end
section
/- slices.IndexFunc and ContainsFunc at nodes, over whatever stands behind the cells; rule.fits. -/
set_option linter.unusedVariables false
set_option linter.unusedSimpArgs false
set_option maxRecDepth 20000
namespace Go.Proofs.YtcplaafmelcndaaGreatDoor.At
open Go.RowKit Go.Lib Go.Proofs.YtcplaafmelcndaaGreatDoor.Pr Go.Proofs.YtcplaafmelcndaaGreatDoorW.PrintWords
/-- What a function that is handed answers at each thing whose cells it is handed. -/
def SaysZ {α : Type} (cel : α → Cel) (g : Nat) (lb : Array Value) (p : α → Bool) (cs : List α) (w : World) : Prop :=
  ∀ c ∈ cs, ∀ w', Below w.heap.size w w' → Calls Tryz.prog g (#[.agg (cel c).enc.toArray] ++ lb) w' fun e w'' => e = .returned (.bool (p c)) ∧ Below w'.heap.size w' w''
theorem SaysZ.below {α : Type} {cel : α → Cel} {g : Nat} {lb : Array Value} {p : α → Bool} {cs : List α} {w w1 : World} (h : SaysZ cel g lb p cs w) (hb : Below w.heap.size w w1) : SaysZ cel g lb p cs w1 :=
  fun c hc w' h' => h c hc w' (hb.trans (h'.mono hb.size))
def firstZ {α : Type} (p : α → Bool) (cs : List α) : Int := if cs.any p then (cs.findIdx p : Int) else -1
set_option maxHeartbeats 1000000 in
theorem indexFuncZ {α : Type} (cel : α → Cel) (g : Nat) (lb : Array Value) (eg : ∀ args w, (callFunc g args).run Tryz.prog w = .ok (.enter g args) w) (p : α → Bool) (A : Option Addr) (cs : List α) (cc : Nat) (w : World) (hr : Kd.C kCel w A cs.length (cs.map cel)) (hs : SaysZ cel g lb p cs w) (hl : cs.length ≤ 1000000000000) :
    Calls Tryz.prog 82 #[.slice A cs.length cc, .func (.func g) #[] lb] w fun e w' => e = .returned (.int .i64 (firstZ p cs)) ∧ Below w.heap.size w w' := by
  have HR := Lib.hid hr
  have HS := Lib.hid hs
  have HL := Lib.hid hl
  clear hr hs
  have hlm : (cs.length : Int) < 9223372036854775807 := by omega
  clear hl
  go_enter Tryz.func82, Tryz.ntmps82
  go_wp2_with fail
  clear hlm
  go_loopg [8] cs.length (fun kx s8 wr => ∃ i : Nat, s8 = .int .i64 (i : Int) ∧ i ≤ cs.length ∧ cs.length - i ≤ kx ∧ Hid (Below w.heap.size w wr ∧ (∀ j (hj : j < cs.length), j < i → p cs[j] = false)))
  case atStart => exact ⟨0, rfl, by omega, by omega, ⟨Below.refl _ _, fun j hj h => absurd h (Nat.not_lt_zero _)⟩⟩
  case round =>
    obtain ⟨i, rfl, hi, hkx, HW⟩ := hrel
    by_cases hlt : i < cs.length
    · obtain ⟨ad, ea, hx0, hx1, hx2, hx3, hx4, hx5⟩ := cel_at (xs := cs.map cel) (by rw [List.length_map]; exact Kd.C_below HR.out HW.out.1) i (by rw [List.length_map]; exact hlt)
      cases ea
      obtain ⟨y, hy⟩ : ∃ y, y = cs[i] := ⟨_, rfl⟩
      simp only [List.getElem_map] at hx0 hx1 hx2 hx3 hx4 hx5
      rw [← hy] at hx0 hx1 hx2 hx3 hx4 hx5
      have HY := Lib.hid hy
      have HI := Lib.hid (And.intro hlt hkx)
      have hcall := HS.out y (by rw [hy]; exact List.getElem_mem hlt) wr HW.out.1
      generalize cel y = cy at hcall hx0 hx1 hx2 hx3 hx4 hx5
      have HC := Lib.hid hcall
      clear hy hcall
      have p1 : decide ((0 : Int) ≤ (i : Int)) = true := decide_eq_true (by omega)
      have q1 : decide ((i : Int) < (cs.length : Int)) = true := decide_eq_true (by omega)
      have p2 := eq_true (show (0 : Int) ≤ (i : Int) by omega)
      have q2 := eq_true (show (i : Int) < (cs.length : Int) by omega)
      clear hi hkx
      go_wp2_with fail
      refine HC.out.mono ?_
      rintro e w2 ⟨rfl, hb2⟩
      have HB2 := Lib.hid (HW.out.1.trans (hb2.mono HW.out.1.size))
      clear hb2
      by_cases hp : p y = true
      · rw [hp]
        go_wp2_with fail
        go_ret
        refine ⟨?_, HB2.out⟩
        have hany : cs.any p = true := List.any_eq_true.2 ⟨y, by rw [HY.out]; exact List.getElem_mem HI.out.1, hp⟩
        have hfi : cs.findIdx p = i := by
          have h1 := HI.out.1
          have h2 : p cs[i] = true := by rw [← HY.out]; exact hp
          exact (List.findIdx_eq h1).2 ⟨h2, fun j hj => HW.out.2 j (by omega) hj⟩
        unfold firstZ
        rw [if_pos hany, hfi]
        rfl
      · have hp' : p y = false := by simpa using hp
        rw [hp']
        go_wp2_with fail
        go_roundg (cs.length - (i + 1))
        case measure => have := HI.out; omega
        case rel => exact ⟨i + 1, by rw [Go.IntWalk.wrap64_in _ (by have := HI.out; have := HL.out; omega)]; rfl, by have := HI.out; omega, Nat.le_refl _, ⟨HB2.out, fun j hj h => by
          rcases Nat.lt_or_ge j i with h1 | h1
          · exact HW.out.2 j hj h1
          · obtain rfl : j = i := by omega
            rw [← HY.out]; exact hp'⟩⟩
    · obtain rfl : i = cs.length := by omega
      have q1 : decide ((cs.length : Int) < (cs.length : Int)) = false := decide_eq_false (by omega)
      clear hi hkx hlt
      go_wp2_with fail
      go_ret
      refine ⟨?_, HW.out.1⟩
      unfold firstZ
      rw [if_neg]
      · rfl
      intro h
      obtain ⟨c, hc, hp⟩ := List.any_eq_true.1 h
      obtain ⟨j, hj, rfl⟩ := List.getElem_of_mem hc
      rw [HW.out.2 j hj hj] at hp
      cases hp
theorem firstZ_pos {α : Type} (p : α → Bool) (cs : List α) : decide (firstZ p cs ≥ 0) = cs.any p := by
  unfold firstZ
  split
  · next h => rw [h]; exact decide_eq_true (by omega)
  · next h => rw [show cs.any p = false by simpa using h]; rfl
theorem containsFuncZ {α : Type} (cel : α → Cel) (g : Nat) (lb : Array Value) (eg : ∀ args w, (callFunc g args).run Tryz.prog w = .ok (.enter g args) w) (p : α → Bool) (A : Option Addr) (cs : List α) (cc : Nat) (w : World) (hr : Kd.C kCel w A cs.length (cs.map cel)) (hs : SaysZ cel g lb p cs w) (hl : cs.length ≤ 1000000000000) :
    Calls Tryz.prog 52 #[.slice A cs.length cc, .func (.func g) #[] lb] w fun e w' => e = .returned (.bool (cs.any p)) ∧ Below w.heap.size w w' := by
  have h1 := indexFuncZ cel g lb eg p A cs cc w hr hs hl
  clear hr hs
  go_enter Tryz.func52, Tryz.ntmps52
  go_wp2_with (go_at_call 82; refine h1.mono ?_)
  rintro e w2 ⟨rfl, hb⟩
  go_wp2_with fail
  go_ret
  exact ⟨by rw [← firstZ_pos]; rfl, hb⟩
/-- The closure of rule.fits. -/
theorem fits1 {α : Type} (cel : α → Cel) (g bR : Nat) (eg : ∀ args w, (callFunc g args).run Tryz.prog w = .ok (.enter g args) w) (p : α → Bool) (cs : List α) (w : World) (hn : w.cell? ⟨bR, 0, none⟩ = some (.func (.func g) #[] #[])) (hs : SaysZ cel g #[] p cs w) :
    SaysZ cel 53 #[.pointer (some ⟨bR, 0, none⟩)] (fun c => !p c) cs w := by
  intro c hc w' hb
  show Calls _ _ _ _ fun e w'' => e = .returned (.bool (!p c)) ∧ Below w'.heap.size w' w''
  have hn' : w'.cell? ⟨bR, 0, none⟩ = some (.func (.func g) #[] #[]) := (hb.cell (World.block_lt_of_cell? w _ hn)).trans hn
  obtain ⟨W1, hW1⟩ : ∃ W1, W1 = w'.alloc (.cells (cel c).enc.toArray 25) := ⟨_, rfl⟩
  have hB : Below w'.heap.size w' W1 := by rw [hW1]; exact (Below.refl _ _).alloc (Nat.le_refl _) _
  have hcall := hs c hc W1 (hb.trans (hB.mono hb.size))
  have hn2 : W1.cell? ⟨bR, 0, none⟩ = some (.func (.func g) #[] #[]) := (hB.cell (World.block_lt_of_cell? w' _ hn')).trans hn'
  generalize p c = R at hcall
  generalize cel c = cy at hcall hW1
  obtain ⟨y0, y1, y2, A3, n3, c3, A4, n4, c4, y5⟩ := cy
  have HC := Lib.hid hcall
  have HB := Lib.hid hB
  have HW := Lib.hid hW1
  clear hcall hB hs hc hb hn hn' hW1
  show Calls Tryz.prog 53 #[.agg #[.int .i64 y0, .string y1, .string y2, .slice A3 n3 c3, .slice A4 n4 c4, .string y5], .pointer (some ⟨bR, 0, none⟩)] w' (fun e w'' => e = .returned (.bool (!R)) ∧ Below w'.heap.size w' w'')
  have hn3 : (w'.alloc (.cells #[.int .i64 y0, .string y1, .string y2, .slice A3 n3 c3, .slice A4 n4 c4, .string y5] 25)).cell? ⟨bR, 0, none⟩ = some (.func (.func g) #[] #[]) := by
    have := HW.out
    rw [show (Cel.enc ⟨y0, y1, y2, A3, n3, c3, A4, n4, c4, y5⟩).toArray = #[.int .i64 y0, .string y1, .string y2, .slice A3 n3 c3, .slice A4 n4 c4, .string y5] from rfl] at this
    rw [← this]; exact hn2
  clear hn2
  go_enter Tryz.func53, Tryz.ntmps53
  go_wp2_with fail
  rw [← (show W1 = w'.alloc (.cells #[.int .i64 y0, .string y1, .string y2, .slice A3 n3 c3, .slice A4 n4 c4, .string y5] 25) from HW.out)]
  refine HC.out.mono ?_
  rintro e w2 ⟨rfl, hb⟩
  have HB2 := Lib.hid (HB.out.trans (hb.mono HB.out.size))
  clear hb
  go_wp2_with fail
  go_ret
  exact ⟨rfl, HB2.out⟩
def fitsV {α : Type} (least most : Int) (p : α → Bool) (xs : List α) : Bool := decide (least ≤ (xs.length : Int)) && decide ((xs.length : Int) ≤ most) && xs.all p
theorem any_not {α : Type} (p : α → Bool) (xs : List α) : (!(xs.any fun c => !p c)) = xs.all p := by
  induction xs with
  | nil => rfl
  | cons x l ih => simp only [List.any_cons, List.all_cons, Bool.not_or, Bool.not_not, ih]
set_option maxHeartbeats 1000000 in
theorem fits_any {α : Type} (cel : α → Cel) (g : Nat) (eg : ∀ args w, (callFunc g args).run Tryz.prog w = .ok (.enter g args) w) (least most : Int) (p : α → Bool) (A : Option Addr) (cs : List α) (cc : Nat) (w : World) (hr : Kd.C kCel w A cs.length (cs.map cel)) (hs : SaysZ cel g #[] p cs w) (hl : cs.length ≤ 1000000000000) :
    Calls Tryz.prog 27 #[.agg #[.func (.func g) #[] #[], .int .i64 least, .int .i64 most], .slice A cs.length cc] w fun e w' => e = .returned (.bool (fitsV least most p cs)) ∧ Below w.heap.size w w' := by
  obtain ⟨W1, hW1⟩ : ∃ W1, W1 = w.alloc (.cells #[.func (.func g) #[] #[], .int .i64 least, .int .i64 most] 46) := ⟨_, rfl⟩
  have hB : Below w.heap.size w W1 := by rw [hW1]; exact (Below.refl _ _).alloc (Nat.le_refl _) _
  have hblk : W1.heap[w.heap.size]? = some (.cells #[.func (.func g) #[] #[], .int .i64 least, .int .i64 most] 46 (0, 0)) := by rw [hW1]; exact heap_alloc_new _ _
  have hs1 := fits1 cel g w.heap.size eg p cs W1 (blk_cell hblk 0) (hs.below hB)
  have hcon := containsFuncZ cel 53 #[.pointer (some ⟨w.heap.size, 0, none⟩)] (fun args w => rfl) (fun c => !p c) A cs cc W1 (Kd.C_below hr hB) hs1 hl
  have hnot := any_not p cs
  obtain ⟨R, hR⟩ : ∃ R, fitsV least most p cs = R := ⟨_, rfl⟩
  rw [hR]
  unfold fitsV at hR
  generalize cs.all p = ra at hnot hR
  generalize (cs.any fun c => !p c) = rb at hnot hcon
  have HW := Lib.hid hW1
  have HB := Lib.hid hB
  have HC := Lib.hid hcon
  have HR := Lib.hid hR
  have HN := Lib.hid hnot
  clear hW1 hB hblk hs1 hcon hnot hr hs hl hR
  by_cases h1 : least ≤ (cs.length : Int)
  · by_cases h2 : (cs.length : Int) ≤ most
    · have hr : R = !rb := by rw [← HR.out, decide_eq_true h1, decide_eq_true h2, ← HN.out]; rfl
      have HR2 := Lib.hid hr
      clear hr
      go_enter Tryz.func27, Tryz.ntmps27
      go_wp2_with (first | (go_at_call 52; rw [← HW.out]; refine HC.out.mono ?_))
      rintro e w2 ⟨rfl, hb⟩
      have HB2 := Lib.hid (HB.out.trans (hb.mono HB.out.size))
      clear hb
      go_wp2_with fail
      go_ret
      exact ⟨by rw [HR2.out]; rfl, HB2.out⟩
    · have hr : R = false := by rw [← HR.out, decide_eq_false h2, Bool.and_false]; rfl
      have HR2 := Lib.hid hr
      clear hr
      have g2 : decide ((cs.length : Int) ≤ most) = false := decide_eq_false h2
      go_enter Tryz.func27, Tryz.ntmps27
      go_wp2_with fail
      go_ret
      exact ⟨by rw [HR2.out]; rfl, (Below.refl _ _).alloc (Nat.le_refl _) _⟩
  · have hr : R = false := by rw [← HR.out, decide_eq_false h1]; rfl
    have HR2 := Lib.hid hr
    clear hr
    go_enter Tryz.func27, Tryz.ntmps27
    go_wp2_with fail
    go_ret
    exact ⟨by rw [HR2.out]; rfl, (Below.refl _ _).alloc (Nat.le_refl _) _⟩
end Go.Proofs.YtcplaafmelcndaaGreatDoor.At
end
section
/- The contracts of library functions that this seat leans on: each is one application of a contract of the shelf (written by lay-plain.mjs, cut to what is needed). -/
namespace Go.Proofs
open Go.Shelf
def Tryz.lays169_ren : Go.Shelf.Ren := ⟨fun | 169 => 33 | n => n, fun | 70 => 54 | 9 => 9 | 0 => 0 | 72 => 57 | 37 => 55 | 127 => 85 | 3 => 3 | 5 => 5 | n => n, fun | n => n⟩
theorem Tryz.lays169 : Go.Proofs.Lays.n169 Tryz.prog Tryz.lays169_ren := {
  mixed := by kernel_rfl
  f169 := Tryz.func33.trans (congrArg some (by kernel_rfl))
  t0 := Tryz.underlying0
  a0 := Tryz.isAgg0
  z0 := Tryz.sizeOf0
  v0 := Tryz.zeroValue0
  t3 := Tryz.underlying3
  a3 := Tryz.isAgg3
  z3 := Tryz.sizeOf3
  v3 := Tryz.zeroValue3
  t9 := Tryz.underlying9
  a9 := Tryz.isAgg9
  z9 := Tryz.sizeOf9
  v9 := Tryz.zeroValue9
  t37 := Tryz.underlying55
  a37 := Tryz.isAgg55
  z37 := Tryz.sizeOf55
  v37 := Tryz.zeroValue55
  t70 := Tryz.underlying54
  a70 := Tryz.isAgg54
  z70 := Tryz.sizeOf54
  v70 := Tryz.zeroValue54
  t72 := Tryz.underlying57
  a72 := Tryz.isAgg57
  z72 := Tryz.sizeOf57
  v72 := Tryz.zeroValue57
  t127 := Tryz.underlying85
  a127 := Tryz.isAgg85
  z127 := Tryz.sizeOf85
  v127 := Tryz.zeroValue85 }
theorem Tryz.Builder_Extra_169 : Builder.Extra Tryz.prog Tryz.lays169_ren := {
  sizeBuilder := by kernel_rfl
  liesBuilder := by kernel_rfl
  t5 := Tryz.underlying5
  a5 := Tryz.isAgg5
  z5 := Tryz.sizeOf5
  v5 := Tryz.zeroValue5
  infoByte := by kernel_rfl
  cellsByte := by kernel_rfl
  sizeByte := by kernel_rfl
  neB5 := by decide }
def Tryz.lays161_ren : Go.Shelf.Ren := ⟨fun | 161 => 107 | 231 => 100 | 227 => 102 | 233 => 103 | 235 => 105 | 228 => 133 | 197 => 134 | 151 => 135 | 260 => 156 | 152 => 157 | 137 => 108 | 119 => 164 | 224 => 154 | 225 => 153 | 217 => 137 | 266 => 159 | n => n, fun | 9 => 9 | 4 => 4 | 3 => 3 | 5 => 5 | 117 => 123 | 116 => 122 | 0 => 0 | 124 => 126 | 105 => 143 | 21 => 21 | 119 => 150 | 46 => 118 | 139 => 153 | 138 => 152 | n => n, fun | 3 => 0 | 4 => 1 | n => n⟩
theorem Tryz.lays161 : Go.Proofs.Lays.n161 Tryz.prog Tryz.lays161_ren := {
  mixed := by kernel_rfl
  f119 := Tryz.func164.trans (congrArg some (by kernel_rfl))
  f137 := Tryz.func108.trans (congrArg some (by kernel_rfl))
  f151 := Tryz.func135.trans (congrArg some (by kernel_rfl))
  f152 := Tryz.func157.trans (congrArg some (by kernel_rfl))
  f161 := Tryz.func107.trans (congrArg some (by kernel_rfl))
  f197 := Tryz.func134.trans (congrArg some (by kernel_rfl))
  f217 := Tryz.func137.trans (congrArg some (by kernel_rfl))
  f224 := Tryz.func154.trans (congrArg some (by kernel_rfl))
  f225 := Tryz.func153.trans (congrArg some (by kernel_rfl))
  f227 := Tryz.func102.trans (congrArg some (by kernel_rfl))
  f228 := Tryz.func133.trans (congrArg some (by kernel_rfl))
  f231 := Tryz.func100.trans (congrArg some (by kernel_rfl))
  f233 := Tryz.func103.trans (congrArg some (by kernel_rfl))
  f235 := Tryz.func105.trans (congrArg some (by kernel_rfl))
  f260 := Tryz.func156.trans (congrArg some (by kernel_rfl))
  f266 := Tryz.func159.trans (congrArg some (by kernel_rfl))
  t0 := Tryz.underlying0
  a0 := Tryz.isAgg0
  z0 := Tryz.sizeOf0
  v0 := Tryz.zeroValue0
  t3 := Tryz.underlying3
  a3 := Tryz.isAgg3
  z3 := Tryz.sizeOf3
  v3 := Tryz.zeroValue3
  t4 := Tryz.underlying4
  a4 := Tryz.isAgg4
  z4 := Tryz.sizeOf4
  v4 := Tryz.zeroValue4
  t5 := Tryz.underlying5
  a5 := Tryz.isAgg5
  z5 := Tryz.sizeOf5
  v5 := Tryz.zeroValue5
  t9 := Tryz.underlying9
  a9 := Tryz.isAgg9
  z9 := Tryz.sizeOf9
  v9 := Tryz.zeroValue9
  t21 := Tryz.underlying21
  a21 := Tryz.isAgg21
  z21 := Tryz.sizeOf21
  v21 := Tryz.zeroValue21
  t46 := Tryz.underlying118
  a46 := Tryz.isAgg118
  z46 := Tryz.sizeOf118
  v46 := Tryz.zeroValue118
  t105 := Tryz.underlying143
  a105 := Tryz.isAgg143
  z105 := Tryz.sizeOf143
  v105 := Tryz.zeroValue143
  t116 := Tryz.underlying122
  a116 := Tryz.isAgg122
  z116 := Tryz.sizeOf122
  t117 := Tryz.underlying123
  a117 := Tryz.isAgg123
  z117 := Tryz.sizeOf123
  v117 := Tryz.zeroValue123
  t119 := Tryz.underlying150
  a119 := Tryz.isAgg150
  z119 := Tryz.sizeOf150
  t124 := Tryz.underlying126
  a124 := Tryz.isAgg126
  z124 := Tryz.sizeOf126
  v124 := Tryz.zeroValue126
  t138 := Tryz.underlying152
  a138 := Tryz.isAgg152
  z138 := Tryz.sizeOf152
  v138 := Tryz.zeroValue152
  t139 := Tryz.underlying153
  a139 := Tryz.isAgg153
  z139 := Tryz.sizeOf153
  v139 := Tryz.zeroValue153
  g3 := by kernel_rfl
  g4 := by kernel_rfl }
def Tryz.lays160_ren : Go.Shelf.Ren := ⟨fun | 160 => 75 | 232 => 101 | 231 => 100 | 227 => 102 | 234 => 104 | 233 => 103 | 236 => 106 | 235 => 105 | 228 => 133 | 271 => 136 | 151 => 135 | 197 => 134 | 120 => 158 | 152 => 157 | 260 => 156 | 137 => 108 | 119 => 164 | 224 => 154 | 225 => 153 | 217 => 137 | 266 => 159 | n => n, fun | 9 => 9 | 4 => 4 | 3 => 3 | 5 => 5 | 117 => 123 | 116 => 122 | 0 => 0 | 124 => 126 | 21 => 21 | 105 => 143 | 46 => 118 | 119 => 150 | 139 => 153 | 138 => 152 | n => n, fun | 3 => 0 | 4 => 1 | n => n⟩
theorem Tryz.lays160 : Go.Proofs.Lays.n160 Tryz.prog Tryz.lays160_ren := {
  mixed := by kernel_rfl
  f119 := Tryz.func164.trans (congrArg some (by kernel_rfl))
  f120 := Tryz.func158.trans (congrArg some (by kernel_rfl))
  f137 := Tryz.func108.trans (congrArg some (by kernel_rfl))
  f151 := Tryz.func135.trans (congrArg some (by kernel_rfl))
  f152 := Tryz.func157.trans (congrArg some (by kernel_rfl))
  f160 := Tryz.func75.trans (congrArg some (by kernel_rfl))
  f197 := Tryz.func134.trans (congrArg some (by kernel_rfl))
  f217 := Tryz.func137.trans (congrArg some (by kernel_rfl))
  f224 := Tryz.func154.trans (congrArg some (by kernel_rfl))
  f225 := Tryz.func153.trans (congrArg some (by kernel_rfl))
  f227 := Tryz.func102.trans (congrArg some (by kernel_rfl))
  f228 := Tryz.func133.trans (congrArg some (by kernel_rfl))
  f231 := Tryz.func100.trans (congrArg some (by kernel_rfl))
  f232 := Tryz.func101.trans (congrArg some (by kernel_rfl))
  f233 := Tryz.func103.trans (congrArg some (by kernel_rfl))
  f234 := Tryz.func104.trans (congrArg some (by kernel_rfl))
  f235 := Tryz.func105.trans (congrArg some (by kernel_rfl))
  f236 := Tryz.func106.trans (congrArg some (by kernel_rfl))
  f260 := Tryz.func156.trans (congrArg some (by kernel_rfl))
  f266 := Tryz.func159.trans (congrArg some (by kernel_rfl))
  f271 := Tryz.func136.trans (congrArg some (by kernel_rfl))
  t0 := Tryz.underlying0
  a0 := Tryz.isAgg0
  z0 := Tryz.sizeOf0
  v0 := Tryz.zeroValue0
  t3 := Tryz.underlying3
  a3 := Tryz.isAgg3
  z3 := Tryz.sizeOf3
  v3 := Tryz.zeroValue3
  t4 := Tryz.underlying4
  a4 := Tryz.isAgg4
  z4 := Tryz.sizeOf4
  v4 := Tryz.zeroValue4
  t5 := Tryz.underlying5
  a5 := Tryz.isAgg5
  z5 := Tryz.sizeOf5
  v5 := Tryz.zeroValue5
  t9 := Tryz.underlying9
  a9 := Tryz.isAgg9
  z9 := Tryz.sizeOf9
  v9 := Tryz.zeroValue9
  t21 := Tryz.underlying21
  a21 := Tryz.isAgg21
  z21 := Tryz.sizeOf21
  v21 := Tryz.zeroValue21
  t46 := Tryz.underlying118
  a46 := Tryz.isAgg118
  z46 := Tryz.sizeOf118
  v46 := Tryz.zeroValue118
  t105 := Tryz.underlying143
  a105 := Tryz.isAgg143
  z105 := Tryz.sizeOf143
  v105 := Tryz.zeroValue143
  t116 := Tryz.underlying122
  a116 := Tryz.isAgg122
  z116 := Tryz.sizeOf122
  t117 := Tryz.underlying123
  a117 := Tryz.isAgg123
  z117 := Tryz.sizeOf123
  v117 := Tryz.zeroValue123
  t119 := Tryz.underlying150
  a119 := Tryz.isAgg150
  z119 := Tryz.sizeOf150
  t124 := Tryz.underlying126
  a124 := Tryz.isAgg126
  z124 := Tryz.sizeOf126
  v124 := Tryz.zeroValue126
  t138 := Tryz.underlying152
  a138 := Tryz.isAgg152
  z138 := Tryz.sizeOf152
  v138 := Tryz.zeroValue152
  t139 := Tryz.underlying153
  a139 := Tryz.isAgg153
  z139 := Tryz.sizeOf153
  v139 := Tryz.zeroValue153
  g3 := by kernel_rfl
  g4 := by kernel_rfl }
def Tryz.lays137_ren : Go.Shelf.Ren := ⟨fun | 137 => 108 | 217 => 137 | 266 => 159 | n => n, fun | 9 => 9 | 5 => 5 | 3 => 3 | n => n, fun | n => n⟩
theorem Tryz.lays137 : Go.Proofs.Lays.n137 Tryz.prog Tryz.lays137_ren := {
  mixed := by kernel_rfl
  f137 := Tryz.func108.trans (congrArg some (by kernel_rfl))
  f217 := Tryz.func137.trans (congrArg some (by kernel_rfl))
  f266 := Tryz.func159.trans (congrArg some (by kernel_rfl))
  t3 := Tryz.underlying3
  a3 := Tryz.isAgg3
  z3 := Tryz.sizeOf3
  v3 := Tryz.zeroValue3
  t5 := Tryz.underlying5
  a5 := Tryz.isAgg5
  z5 := Tryz.sizeOf5
  v5 := Tryz.zeroValue5
  t9 := Tryz.underlying9
  a9 := Tryz.isAgg9
  z9 := Tryz.sizeOf9
  v9 := Tryz.zeroValue9 }
open Go.RowKit in
/-- strings.IndexByte: "IndexByte returns the index of the first instance of c in s, or -1 if c is not present in s.": IT RETURNS 'Lib.indexByte s c'; the world is as it was. (LAID: no walk: one application.) -/
theorem Tryz.strings_IndexByte (s : ByteArray) (c : Int) (w : World) :
    Calls Tryz.prog 108 #[.string s, .int .u8 c] w fun e w' => e = .returned (.int .i64 (Lib.indexByte s.data.toList c.toNat.toUInt8)) ∧ w' = w := Any.strings_IndexByte Tryz.lays137 s c w
def Tryz.lays103_ren : Go.Shelf.Ren := ⟨fun | 103 => 109 | 210 => 138 | 206 => 150 | n => n, fun | 9 => 9 | 4 => 4 | 24 => 71 | 3 => 3 | n => n, fun | n => n⟩
theorem Tryz.lays103 : Go.Proofs.Lays.n103 Tryz.prog Tryz.lays103_ren := {
  mixed := by kernel_rfl
  f103 := Tryz.func109.trans (congrArg some (by kernel_rfl))
  f206 := Tryz.func150.trans (congrArg some (by kernel_rfl))
  f210 := Tryz.func138.trans (congrArg some (by kernel_rfl))
  t3 := Tryz.underlying3
  a3 := Tryz.isAgg3
  z3 := Tryz.sizeOf3
  v3 := Tryz.zeroValue3
  t4 := Tryz.underlying4
  a4 := Tryz.isAgg4
  z4 := Tryz.sizeOf4
  v4 := Tryz.zeroValue4
  t9 := Tryz.underlying9
  a9 := Tryz.isAgg9
  z9 := Tryz.sizeOf9
  v9 := Tryz.zeroValue9
  t24 := Tryz.underlying71
  a24 := Tryz.isAgg71
  z24 := Tryz.sizeOf71
  v24 := Tryz.zeroValue71 }
open Go.RowKit in
/-- strings.CutPrefix: "CutPrefix returns s without the provided leading prefix string and reports whether it found the prefix. If s doesn't start with prefix, CutPrefix returns s, false. If prefix is the empty string, CutPrefix returns s, true.": IT RETURNS '(Lib.trimPrefix s p, Lib.hasPrefix s p)'; the world is as it was. (LAID: no walk: one application.) -/
theorem Tryz.strings_CutPrefix (s p : ByteArray) (w : World) :
    Calls Tryz.prog 109 #[.string s, .string p] w fun e w' => e = .returned (.tuple #[.string ⟨(Lib.trimPrefix s.data.toList p.data.toList).toArray⟩, .bool (Lib.hasPrefix s.data.toList p.data.toList)]) ∧ w' = w := Any.strings_CutPrefix Tryz.lays103 s p w
open Go.RowKit in
/-- (*strings.Builder).String: "String returns the accumulated string.": WHATEVER THE BUILDER HOLDS; THE FORM '_k': OVER 'Lib.IsBuilderF' (a builder that 'String()' may have read), AND WITH THE FRAME THAT REACHES ABOVE THE BUILDER: 'Lib.OthersKept': every block that is not b and is no row of uint8's stands as it stood: the iterator of a range among them. (LAID: no walk: one application.) -/
theorem Tryz.Builder_String_any_k (B b : Nat) (l : List UInt8) (w : World) (h : Lib.IsBuilderF 57 5 B b (Lib.byteCells l) w) (hBw : B ≤ w.heap.size) :
    Calls Tryz.prog 33 #[.pointer (some ⟨b, 0, none⟩)] w fun e w' => e = .returned (.string ⟨l.toArray⟩) ∧ (Lib.IsBuilderF 57 5 B b (Lib.byteCells l) w' ∧ Below B w w' ∧ Lib.OthersKept 5 (some b) w w') := Any.Builder_String_any_k Tryz.lays169 Tryz.Builder_Extra_169 B b l w h hBw
def Tryz.lays219_ren : Go.Shelf.Ren := ⟨fun | 219 => 132 | 217 => 137 | 225 => 153 | 224 => 154 | 267 => 155 | 266 => 159 | 314 => 163 | n => n, fun | 9 => 9 | 3 => 3 | 4 => 4 | 5 => 5 | 46 => 118 | 146 => 163 | 51 => 162 | n => n, fun | 1 => 2 | n => n⟩
theorem Tryz.lays219 : Go.Proofs.Lays.n219 Tryz.prog Tryz.lays219_ren := {
  mixed := by kernel_rfl
  f217 := Tryz.func137.trans (congrArg some (by kernel_rfl))
  f219 := Tryz.func132.trans (congrArg some (by kernel_rfl))
  f224 := Tryz.func154.trans (congrArg some (by kernel_rfl))
  f225 := Tryz.func153.trans (congrArg some (by kernel_rfl))
  f266 := Tryz.func159.trans (congrArg some (by kernel_rfl))
  f267 := Tryz.func155.trans (congrArg some (by kernel_rfl))
  f314 := Tryz.func163.trans (congrArg some (by kernel_rfl))
  t3 := Tryz.underlying3
  a3 := Tryz.isAgg3
  z3 := Tryz.sizeOf3
  v3 := Tryz.zeroValue3
  t4 := Tryz.underlying4
  a4 := Tryz.isAgg4
  z4 := Tryz.sizeOf4
  v4 := Tryz.zeroValue4
  t5 := Tryz.underlying5
  a5 := Tryz.isAgg5
  z5 := Tryz.sizeOf5
  v5 := Tryz.zeroValue5
  t9 := Tryz.underlying9
  a9 := Tryz.isAgg9
  z9 := Tryz.sizeOf9
  v9 := Tryz.zeroValue9
  t46 := Tryz.underlying118
  a46 := Tryz.isAgg118
  z46 := Tryz.sizeOf118
  v46 := Tryz.zeroValue118
  t51 := Tryz.underlying162
  a51 := Tryz.isAgg162
  z51 := Tryz.sizeOf162
  v51 := Tryz.zeroValue162
  t146 := Tryz.underlying163
  a146 := Tryz.isAgg163
  z146 := Tryz.sizeOf163
  v146 := Tryz.zeroValue163
  g1 := by kernel_rfl }
open Go.RowKit Go.Lib in
/-- internal/stringslite.Index (what strings.Index calls) AT A substr OF ONE BYTE c: IT RETURNS 'Lib.indexByte s c'; the world is as it was. (LAID: no walk: one application.) -/
theorem Tryz.stringslite_Index_one (s : ByteArray) (c : UInt8) (w : World) :
    Calls Tryz.prog 132 #[.string s, .string ⟨#[c]⟩] w fun e w' => e = .returned (.int .i64 (Lib.indexByte s.data.toList c)) ∧ w' = w := Any.stringslite_Index_one Tryz.lays219 s c w
def Tryz.lays144_ren : Go.Shelf.Ren := ⟨fun | 144 => 69 | 143 => 95 | 219 => 132 | 217 => 137 | 225 => 153 | 224 => 154 | 267 => 155 | 266 => 159 | 314 => 163 | n => n, fun | 9 => 9 | 4 => 4 | 3 => 3 | 5 => 5 | 46 => 118 | 146 => 163 | 51 => 162 | n => n, fun | 1 => 2 | n => n⟩
theorem Tryz.lays144 : Go.Proofs.Lays.n144 Tryz.prog Tryz.lays144_ren := {
  mixed := by kernel_rfl
  f143 := Tryz.func95.trans (congrArg some (by kernel_rfl))
  f144 := Tryz.func69.trans (congrArg some (by kernel_rfl))
  f217 := Tryz.func137.trans (congrArg some (by kernel_rfl))
  f219 := Tryz.func132.trans (congrArg some (by kernel_rfl))
  f224 := Tryz.func154.trans (congrArg some (by kernel_rfl))
  f225 := Tryz.func153.trans (congrArg some (by kernel_rfl))
  f266 := Tryz.func159.trans (congrArg some (by kernel_rfl))
  f267 := Tryz.func155.trans (congrArg some (by kernel_rfl))
  f314 := Tryz.func163.trans (congrArg some (by kernel_rfl))
  t3 := Tryz.underlying3
  a3 := Tryz.isAgg3
  z3 := Tryz.sizeOf3
  v3 := Tryz.zeroValue3
  t4 := Tryz.underlying4
  a4 := Tryz.isAgg4
  z4 := Tryz.sizeOf4
  v4 := Tryz.zeroValue4
  t5 := Tryz.underlying5
  a5 := Tryz.isAgg5
  z5 := Tryz.sizeOf5
  v5 := Tryz.zeroValue5
  t9 := Tryz.underlying9
  a9 := Tryz.isAgg9
  z9 := Tryz.sizeOf9
  v9 := Tryz.zeroValue9
  t46 := Tryz.underlying118
  a46 := Tryz.isAgg118
  z46 := Tryz.sizeOf118
  v46 := Tryz.zeroValue118
  t51 := Tryz.underlying162
  a51 := Tryz.isAgg162
  z51 := Tryz.sizeOf162
  v51 := Tryz.zeroValue162
  t146 := Tryz.underlying163
  a146 := Tryz.isAgg163
  z146 := Tryz.sizeOf163
  v146 := Tryz.zeroValue163
  g1 := by kernel_rfl }
open Go.RowKit Go.Lib in
/-- strings.Contains: "Contains reports whether substr is within s.": AT A substr OF ONE BYTE c: IT RETURNS 'decide (0 ≤ Lib.indexByte s c)'; the world is as it was. (LAID: no walk: one application.) -/
theorem Tryz.strings_Contains_one (s : ByteArray) (c : UInt8) (w : World) :
    Calls Tryz.prog 69 #[.string s, .string ⟨#[c]⟩] w fun e w' => e = .returned (.bool (decide (0 ≤ Lib.indexByte s.data.toList c))) ∧ w' = w := Any.strings_Contains_one Tryz.lays144 s c w
def Tryz.lays99_ren : Go.Shelf.Ren := ⟨fun | 99 => 126 | 206 => 150 | n => n, fun | 9 => 9 | 4 => 4 | 3 => 3 | n => n, fun | n => n⟩
theorem Tryz.lays99 : Go.Proofs.Lays.n99 Tryz.prog Tryz.lays99_ren := {
  mixed := by kernel_rfl
  f99 := Tryz.func126.trans (congrArg some (by kernel_rfl))
  f206 := Tryz.func150.trans (congrArg some (by kernel_rfl))
  t3 := Tryz.underlying3
  a3 := Tryz.isAgg3
  z3 := Tryz.sizeOf3
  v3 := Tryz.zeroValue3
  t4 := Tryz.underlying4
  a4 := Tryz.isAgg4
  z4 := Tryz.sizeOf4
  v4 := Tryz.zeroValue4
  t9 := Tryz.underlying9
  a9 := Tryz.isAgg9
  z9 := Tryz.sizeOf9
  v9 := Tryz.zeroValue9 }
open Go.RowKit Go.Lib in
/-- strings.HasPrefix: "HasPrefix reports whether the string s begins with prefix.": IT RETURNS 'Lib.hasPrefix s prefix'; the world is as it was. (LAID: no walk: one application.) -/
theorem Tryz.strings_HasPrefix (s p : ByteArray) (w : World) :
    Calls Tryz.prog 126 #[.string s, .string p] w fun e w' => e = .returned (.bool (Lib.hasPrefix s.data.toList p.data.toList)) ∧ w' = w := Any.strings_HasPrefix Tryz.lays99 s p w
def Tryz.lays196_ren : Go.Shelf.Ren := ⟨fun | 196 => 127 | 259 => 151 | n => n, fun | 9 => 9 | 4 => 4 | 3 => 3 | 5 => 5 | 12 => 12 | 119 => 150 | 0 => 0 | 46 => 118 | 139 => 153 | 138 => 152 | 53 => 160 | n => n, fun | 3 => 0 | 4 => 1 | n => n⟩
theorem Tryz.lays196 : Go.Proofs.Lays.n196 Tryz.prog Tryz.lays196_ren := {
  mixed := by kernel_rfl
  f196 := Tryz.func127.trans (congrArg some (by kernel_rfl))
  f259 := Tryz.func151.trans (congrArg some (by kernel_rfl))
  t0 := Tryz.underlying0
  a0 := Tryz.isAgg0
  z0 := Tryz.sizeOf0
  v0 := Tryz.zeroValue0
  t3 := Tryz.underlying3
  a3 := Tryz.isAgg3
  z3 := Tryz.sizeOf3
  v3 := Tryz.zeroValue3
  t4 := Tryz.underlying4
  a4 := Tryz.isAgg4
  z4 := Tryz.sizeOf4
  v4 := Tryz.zeroValue4
  t5 := Tryz.underlying5
  a5 := Tryz.isAgg5
  z5 := Tryz.sizeOf5
  v5 := Tryz.zeroValue5
  t9 := Tryz.underlying9
  a9 := Tryz.isAgg9
  z9 := Tryz.sizeOf9
  v9 := Tryz.zeroValue9
  t12 := Tryz.underlying12
  a12 := Tryz.isAgg12
  z12 := Tryz.sizeOf12
  v12 := Tryz.zeroValue12
  t46 := Tryz.underlying118
  a46 := Tryz.isAgg118
  z46 := Tryz.sizeOf118
  v46 := Tryz.zeroValue118
  t53 := Tryz.underlying160
  a53 := Tryz.isAgg160
  z53 := Tryz.sizeOf160
  v53 := Tryz.zeroValue160
  t119 := Tryz.underlying150
  a119 := Tryz.isAgg150
  z119 := Tryz.sizeOf150
  t138 := Tryz.underlying152
  a138 := Tryz.isAgg152
  z138 := Tryz.sizeOf152
  v138 := Tryz.zeroValue152
  t139 := Tryz.underlying153
  a139 := Tryz.isAgg153
  z139 := Tryz.sizeOf153
  v139 := Tryz.zeroValue153
  g3 := by kernel_rfl
  g4 := by kernel_rfl }
end Go.Proofs
end
section
/- glyph.among and glyph.Char by hand: a code point in one of some ranges. -/
set_option linter.unusedVariables false
set_option linter.unusedSimpArgs false
set_option maxRecDepth 20000
namespace Go.Proofs.YtcplaafmelcndaaGreatDoor.At
open Go.RowKit Go.Lib Go.Shelf
theorem cellAt {w : World} {b : Nat} {cs : Array Value} {t : TypeId} {fz : Nat × Nat} (h : w.heap[b]? = some (.cells cs t fz)) (i : Nat) : w.cell? ⟨b, i, none⟩ = cs[i]? := by simp [World.cell?, h]
/-- Is a number in one of some ranges? -/
def inR (c : Int) : List (Int × Int) → Bool
  | [] => false
  | r :: l => (decide (r.1 ≤ c) && decide (c ≤ r.2)) || inR c l
theorem inR_drop (c : Int) (l : List (Int × Int)) (i : Nat) (h : i < l.length) : inR c (l.drop i) = ((decide (l[i].1 ≤ c) && decide (c ≤ l[i].2)) || inR c (l.drop (i + 1))) := by
  rw [List.drop_eq_getElem_cons h]; rfl
/-- Ranges in memory. -/
def RngW (l : List (Int × Int)) (b : Nat) (w : World) : Prop :=
  ∀ i (h : i < l.length), w.cell? ⟨b, i * 2, none⟩ = some (.int .i64 l[i].1) ∧ w.cell? ⟨b, i * 2 + 1, none⟩ = some (.int .i64 l[i].2)
theorem among_any (c : Int) (b : Nat) (l : List (Int × Int)) (hn : l.length ≤ 1000) (w : World) (hr : RngW l b w) (hb : b < w.heap.size) :
    Calls Tryz.prog 152 #[.int .i64 c, .slice (some ⟨b, 0, none⟩) l.length l.length] w fun e w' => e = .returned (.bool (inR c l)) ∧ Below w.heap.size w w' := by
  obtain ⟨ANS, hA⟩ : ∃ a, inR c l = a := ⟨_, rfl⟩
  rw [hA]
  have HA := Lib.hid hA
  have HR := Lib.hid hr
  have HN := Lib.hid hn
  have hlm : (l.length : Int) < 9223372036854775807 := by omega
  clear hA hr hn
  go_enter Tryz.func152, Tryz.ntmps152
  go_wp2_with fail
  clear hlm
  go_loopg [9] l.length (fun kx s9 wr => ∃ i : Nat, s9 = .int .i64 (i : Int) ∧ i ≤ l.length ∧ l.length - i ≤ kx ∧ Hid (Below w.heap.size w wr ∧ inR c (l.drop i) = ANS))
  case atStart => exact ⟨0, rfl, by omega, by omega, ⟨Below.refl _ _, HA.out⟩⟩
  case round =>
    obtain ⟨i, rfl, hi, hkx, HW⟩ := hrel
    by_cases hlt : i < l.length
    · obtain ⟨x0, x1⟩ := HR.out i hlt
      have hst := inR_drop c l i hlt
      have k0 : wr.cell? ⟨b, i * 2, none⟩ = some (.int .i64 l[i].1) := (HW.out.1.cell (by exact hb)).trans x0
      have k1 : wr.cell? ⟨b, i * 2 + 1, none⟩ = some (.int .i64 l[i].2) := (HW.out.1.cell (by exact hb)).trans x1
      generalize l[i].1 = lo at k0 hst
      generalize l[i].2 = hi' at k1 hst
      have HST := Lib.hid hst
      have HI := Lib.hid (And.intro hlt hkx)
      have p1 : decide ((0 : Int) ≤ (i : Int)) = true := decide_eq_true (by omega)
      have q1 : decide ((i : Int) < (l.length : Int)) = true := decide_eq_true (by omega)
      have p2 := eq_true (show (0 : Int) ≤ (i : Int) by omega)
      have q2 := eq_true (show (i : Int) < (l.length : Int) by omega)
      clear hst hi hkx x0 x1 hlt
      have HB2 := Lib.hid (HW.out.1.alloc (o := .cells #[.int .i64 lo, .int .i64 hi'] 155) (HW.out.1.size))
      by_cases h1 : lo ≤ c
      · by_cases h2 : c ≤ hi'
        · go_wp2_with fail
          go_ret
          refine ⟨?_, HB2.out⟩
          have := HW.out.2
          rw [HST.out, decide_eq_true h1, decide_eq_true h2] at this
          rw [← this]; rfl
        · have hst2 : inR c (l.drop (i + 1)) = ANS := by have := HW.out.2; rw [HST.out, decide_eq_false h2, Bool.and_false, Bool.false_or] at this; exact this
          have HS2 := Lib.hid hst2
          clear hst2
          go_wp2_with fail
          go_roundg (l.length - (i + 1))
          case measure => have := HI.out; omega
          case rel => exact ⟨i + 1, by rw [Go.IntWalk.wrap64_in _ (by have := HI.out; have := HN.out; omega)]; rfl, by have := HI.out; omega, Nat.le_refl _, ⟨HB2.out, HS2.out⟩⟩
      · have hst2 : inR c (l.drop (i + 1)) = ANS := by have := HW.out.2; rw [HST.out, decide_eq_false h1, Bool.false_and, Bool.false_or] at this; exact this
        have HS2 := Lib.hid hst2
        clear hst2
        go_wp2_with fail
        go_roundg (l.length - (i + 1))
        case measure => have := HI.out; omega
        case rel => exact ⟨i + 1, by rw [Go.IntWalk.wrap64_in _ (by have := HI.out; have := HN.out; omega)]; rfl, by have := HI.out; omega, Nat.le_refl _, ⟨HB2.out, HS2.out⟩⟩
    · obtain rfl : i = l.length := by omega
      have q1 : decide ((l.length : Int) < (l.length : Int)) = false := decide_eq_false (by omega)
      have hf : ANS = false := by have := HW.out.2; rw [List.drop_length] at this; exact this.symm
      have HF := Lib.hid hf
      clear hi hkx hlt hf
      go_wp2_with fail
      go_ret
      exact ⟨by rw [HF.out]; rfl, HW.out.1⟩
/-- glyph.Char. -/
def charR : List (Int × Int) := [(9, 10), (13, 13), (32, 55295), (57344, 65533), (65536, 1114111)]
def charV (c : Int) : Bool := inR c charR
theorem char_any (c : Int) (w : World) :
    Calls Tryz.prog 128 #[.int .i64 c] w fun e w' => e = .returned (.bool (charV c)) ∧ Below w.heap.size w w' := by
  have C := among_any c w.heap.size charR (by decide) (w.alloc (.cells #[.int .i64 9, .int .i64 10, .int .i64 13, .int .i64 13, .int .i64 32, .int .i64 55295, .int .i64 57344, .int .i64 65533, .int .i64 65536, .int .i64 1114111] 155)) (by
    intro i hi
    have hb := heap_alloc_new w (.cells #[.int .i64 9, .int .i64 10, .int .i64 13, .int .i64 13, .int .i64 32, .int .i64 55295, .int .i64 57344, .int .i64 65533, .int .i64 65536, .int .i64 1114111] 155)
    match i, hi with
    | 0, _ => exact ⟨(cellAt hb 0).trans rfl, (cellAt hb 1).trans rfl⟩
    | 1, _ => exact ⟨(cellAt hb 2).trans rfl, (cellAt hb 3).trans rfl⟩
    | 2, _ => exact ⟨(cellAt hb 4).trans rfl, (cellAt hb 5).trans rfl⟩
    | 3, _ => exact ⟨(cellAt hb 6).trans rfl, (cellAt hb 7).trans rfl⟩
    | 4, _ => exact ⟨(cellAt hb 8).trans rfl, (cellAt hb 9).trans rfl⟩
    | _ + 5, h => exact absurd h (by simp [charR])) (by simp)
  have HC := Lib.hid C
  clear C
  go_enter Tryz.func128, Tryz.ntmps128
  go_wp2_with (go_at_call 152; refine HC.out.mono ?_)
  rintro e w2 ⟨rfl, hb⟩
  go_wp2_with fail
  go_ret
  exact ⟨rfl, ((Below.refl _ _).alloc (Nat.le_refl _) _).trans (hb.mono (by simp))⟩
/-- What package utf8's tables hold. -/
def LaidW (w : World) : Prop := Lib.Utf8Tabs 0 1 w ∧ 2 ≤ w.heap.size
theorem LaidW.size {w : World} (h : LaidW w) : 1 < w.heap.size := h.2
theorem LaidW.below {w w' : World} {B : Nat} (h : LaidW w) (hb : Below B w w') (hB : 1 < B) : LaidW w' :=
  ⟨⟨fun c hc => (hb.cell (by show 0 < B; omega)).trans (h.1.1 c hc), fun i hi => ⟨(hb.cell (by show 1 < B; omega)).trans (h.1.2 i hi).1, (hb.cell (by show 1 < B; omega)).trans (h.1.2 i hi).2⟩⟩, Nat.le_trans h.2 hb.size⟩
theorem LaidW.step {w w' : World} (h : LaidW w) (hb : Below w.heap.size w w') : LaidW w' := h.below hb h.size
theorem valid_any (s : ByteArray) (w : World) (hs : s.size ≤ 1000000000000) (hG : LaidW w) :
    Calls Tryz.prog 127 #[.string s] w fun e w' => e = .returned (.bool (Lib.validD s.data.toList)) ∧ Below w.heap.size w w' :=
  Any.utf8_ValidString Tryz.lays196 s w (by omega) hG.1
/-- All code points from a place on may be. -/
def charsFrom : Nat → ByteArray → Nat → Bool
  | 0, _, _ => true
  | n + 1, s, k => if k < s.size then charV (Utf8.decode s k).1 && charsFrom n s (k + (Utf8.decode s k).2) else true
theorem charsFrom_fuel (s : ByteArray) : ∀ (n m k : Nat), s.size ≤ k + n → s.size ≤ k + m → charsFrom n s k = charsFrom m s k
  | 0, 0, _, _, _ => rfl
  | 0, m + 1, k, h, _ => by
    unfold charsFrom
    rw [if_neg (by omega)]
  | n + 1, 0, k, _, h => by
    unfold charsFrom
    rw [if_neg (by omega)]
  | n + 1, m + 1, k, h1, h2 => by
    unfold charsFrom
    have := Lib.width_pos s k
    rw [charsFrom_fuel s n m (k + (Utf8.decode s k).2) (by omega) (by omega)]
theorem charsFrom_step (s : ByteArray) (k : Nat) (h : k < s.size) : charsFrom s.size s k = (charV (Utf8.decode s k).1 && charsFrom s.size s (k + (Utf8.decode s k).2)) := by
  have := Lib.width_pos s k
  rw [charsFrom_fuel s s.size (s.size + 1) k (by omega) (by omega)]
  conv => lhs; unfold charsFrom
  rw [if_pos h]
theorem charsFrom_end (s : ByteArray) (k : Nat) (h : ¬ k < s.size) : charsFrom s.size s k = true := by
  rw [charsFrom_fuel s s.size 0 k (by omega) (by omega)]
  rfl
/-- glyph.Check. -/
def checkV (s : ByteArray) : Int := if (Lib.validD s.data.toList && charsFrom s.size s 0) = true then 0 else 50
theorem check_any (s : ByteArray) (hs : s.size ≤ 1000000000000) (w : World) (hG : LaidW w) :
    Calls Tryz.prog 91 #[.string s] w fun e w' => e = .returned (.int .i64 (checkV s)) ∧ Below w.heap.size w w' := by
  have C := valid_any s w hs hG
  obtain ⟨R, hR⟩ : ∃ r, checkV s = r := ⟨_, rfl⟩
  rw [hR]
  have HR := Lib.hid hR
  clear hR
  cases hv : Lib.validD s.data.toList
  · rw [hv] at C
    have HC := Lib.hid C
    have hR2 : R = 50 := by rw [← HR.out]; unfold checkV; rw [hv]; rfl
    have HR2 := Lib.hid hR2
    clear C hG hv hR2
    go_enter Tryz.func91, Tryz.ntmps91
    go_wp2_with (go_at_call 127; refine HC.out.mono ?_)
    rintro e w2 ⟨rfl, hb⟩
    go_wp2_with fail
    go_ret
    exact ⟨by rw [HR2.out]; rfl, hb⟩
  · rw [hv] at C
    obtain ⟨ANS, hA⟩ : ∃ a, charsFrom s.size s 0 = a := ⟨_, rfl⟩
    have hR2 : R = if ANS = true then 0 else 50 := by rw [← HR.out]; unfold checkV; rw [hv, hA, Bool.true_and]
    have HR2 := Lib.hid hR2
    clear hR2
    have HA := Lib.hid hA
    have HC := Lib.hid C
    have HS := Lib.hid hs
    clear C hG hv hA hs
    go_enter Tryz.func91, Tryz.ntmps91
    go_wp2_with (go_at_call 127; refine HC.out.mono ?_)
    rintro e w2 ⟨rfl, hb⟩
    have HB := Lib.hid hb
    clear hb
    go_wp2_with fail
    have HI : Hid (Below w.heap.size w (w2.alloc (.stringIter s 0)) ∧ (w2.alloc (.stringIter s 0)).heap[w2.heap.size]? = some (.stringIter s 0)) := Lib.hid ⟨HB.out.alloc (HB.out.size) _, heap_alloc_new _ _⟩
    go_loopg [4] (s.size + 1) (fun kx s4 wr => ∃ k : Nat, s.size - k < kx ∧ Hid (Below w.heap.size w wr ∧ wr.heap[w2.heap.size]? = some (.stringIter s k) ∧ charsFrom s.size s k = ANS))
    case atStart => exact ⟨0, by omega, ⟨HI.out.1, HI.out.2, HA.out⟩⟩
    case round =>
      obtain ⟨k, hkx, HW⟩ := hrel
      by_cases hlt : k < s.size
      · have hnx : ∀ ty, (Instr.next (.pointer (some ⟨w2.heap.size, 0, none⟩)) true ty).run Tryz.prog wr = _ := fun ty => Lib.run_next_any_at wr w2.heap.size s k ty HW.out.2.1 hlt
        have hst := charsFrom_step s k hlt
        have hle := decode_le s k
        have hpos := Lib.width_pos s k
        have hit := Lib.iterAt_heap wr w2.heap.size s k (k + (Utf8.decode s k).2) HW.out.2.1
        have hbi : Below w.heap.size w (wr.iterAt w2.heap.size s (k + (Utf8.decode s k).2)) := Lib.below_iterAt HW.out.1 HB.out.size s _
        generalize (Utf8.decode s k).1 = q at hnx hst hle
        generalize (Utf8.decode s k).2 = n at hnx hst hpos hit hbi
        have hch := char_any (q : Int) (wr.iterAt w2.heap.size s (k + n))
        have HCH := Lib.hid hch
        have HST := Lib.hid hst
        have HIT := Lib.hid hit
        have HBI := Lib.hid hbi
        have HK := Lib.hid (And.intro hkx (And.intro hlt hpos))
        clear hch hst hit hbi hkx hpos hlt
        cases hq : charV (q : Int)
        · rw [hq] at HCH
          have hf : ANS = false := by have := HW.out.2.2; rw [HST.out, hq, Bool.false_and] at this; exact this.symm
          have HF := Lib.hid hf
          clear hf hq
          go_wp2_with (go_at_call 128; refine HCH.out.mono ?_)
          rintro e w3 ⟨rfl, hb3⟩
          have HB3 := Lib.hid hb3
          clear hb3
          go_wp2_with fail
          go_ret
          exact ⟨by rw [HR2.out, HF.out]; rfl, HBI.out.trans (HB3.out.mono HBI.out.size)⟩
        · rw [hq] at HCH
          have hst2 : charsFrom s.size s (k + n) = ANS := by have := HW.out.2.2; rw [HST.out, hq, Bool.true_and] at this; exact this
          have HS2 := Lib.hid hst2
          clear hst2 hq
          go_wp2_with (go_at_call 128; refine HCH.out.mono ?_)
          rintro e w3 ⟨rfl, hb3⟩
          have HB3 := Lib.hid hb3
          clear hb3
          go_wp2_with fail
          go_roundg (s.size - (k + n) + 1)
          case measure => have := HK.out; omega
          case rel => exact ⟨k + n, by omega, ⟨HBI.out.trans (HB3.out.mono HBI.out.size), (HB3.out.block _ (by rw [Lib.iterAt_size]; exact (Array.getElem?_eq_some_iff.1 HW.out.2.1).1)).trans HIT.out, HS2.out⟩⟩
      · have hnx : ∀ ty, (Instr.next (.pointer (some ⟨w2.heap.size, 0, none⟩)) true ty).run Tryz.prog wr = _ := fun ty => Lib.run_next_end_at wr w2.heap.size s k ty HW.out.2.1 hlt
        have ht : ANS = true := by have := HW.out.2.2; rw [charsFrom_end s k hlt] at this; exact this.symm
        have HT := Lib.hid ht
        clear ht hlt hkx
        go_wp2_with fail
        go_ret
        exact ⟨by rw [HR2.out, HT.out]; rfl, HW.out.1⟩
def glyph_Check.f (a0 : ByteArray) : Option Int := if a0.size ≤ 1000000000000 then some (checkV a0) else none
theorem glyph_Check.calls (a0 : ByteArray) (r : Int) (w : World) (hG : LaidW w) (h : glyph_Check.f a0 = some r) :
    Calls Tryz.prog 91 #[.string a0] w fun e w' => e = .returned (.int .i64 r) ∧ Below w.heap.size w w' := by
  unfold glyph_Check.f at h
  split at h
  case isFalse => cases h
  case isTrue hs =>
    obtain rfl := Option.some.inj h
    exact check_any a0 hs w hG
end Go.Proofs.YtcplaafmelcndaaGreatDoor.At
end
section
/- strings.Builder at this program, whose copyCheck ends in a refusal where the shelf's body panics: copyCheck, WriteString, WriteByte by hand, after the shelf's proofs. -/
set_option linter.unusedVariables false
set_option linter.unusedSimpArgs false
set_option maxRecDepth 20000
namespace Go.Proofs.YtcplaafmelcndaaGreatDoor.Bld
open Go.RowKit Go.Shelf
theorem X : Builder.Extra Tryz.prog Tryz.lays169_ren := Tryz.Builder_Extra_169
theorem sizeB : (Tryz.prog.info? 57).map (·.size) = some 2 := X.sizeBuilder
theorem liesB : liesAt Tryz.prog Tryz.prog.depth 57 (2 / Tryz.prog.cellsOf 57) 0 57 1 = true := X.liesBuilder
theorem tP : Tryz.prog.underlying 54 = some (TypeDesc.pointer 57) := Tryz.lays169.t70
set_option maxHeartbeats 1000000 in
theorem copyCheck_used (b : Nat) (w : World) (h0 : w.cell? ⟨b, 0, none⟩ = some (.pointer (some ⟨b, 0, none⟩))) :
    Calls Tryz.prog 65 #[.pointer (some ⟨b, 0, none⟩)] w fun e w' => e = .returned (.tuple #[]) ∧ w' = w := by
  obtain ⟨j, hj, _⟩ := Option.map_eq_some_iff.1 sizeB
  go_enter Tryz.func65, Tryz.ntmps65
  go_wp2_with fail
  rw [Lib.run_neq_ptr_same w _ tP hj]
  go_wp2_with fail
  go_end0
  exact ⟨rfl, rfl⟩
set_option maxHeartbeats 1000000 in
theorem copyCheck_fresh (b : Nat) (w : World) (h0 : w.cell? ⟨b, 0, none⟩ = some (.pointer none)) (hsh : w.shape? b = some (57, 2)) (hfz : w.frozen? ⟨b, 0, none⟩ = false) :
    Calls Tryz.prog 65 #[.pointer (some ⟨b, 0, none⟩)] w fun e w' => e = .returned (.tuple #[]) ∧ w' = w.setCell ⟨b, 0, none⟩ (.pointer (some ⟨b, 0, none⟩)) := by
  obtain ⟨j, hj, hjs⟩ := Option.map_eq_some_iff.1 sizeB
  have tU : Tryz.prog.underlying 109 = some TypeDesc.unsafePointer := by kernel_rfl
  go_enter Tryz.func65, Tryz.ntmps65
  go_wp2_with fail
  rw [Lib.run_to_unsafe w ⟨b, 0, none⟩ tP tU hj (by rw [hjs]; decide) hsh (Nat.zero_lt_succ 1)]
  simp only [Result.andThen]
  rw [Oper.upon_value]
  go_wp2_with fail
  rw [run_callFunc_extern Tryz.func89 (by kernel_rfl) (by kernel_rfl) (by kernel_rfl) (e := Extern.AbiNoEscape.same) (by kernel_rfl)]
  rw [Lib.run_noEscape]
  simp only [Result.andThen]
  rw [Oper.upon_value]
  go_wp2_with fail
  rw [Lib.run_from_unsafe w ⟨b, 0, none⟩ tU tP hj hsh liesB]
  simp only [Result.andThen]
  rw [Oper.upon_value]
  go_wp2_with fail
  go_end0
  exact ⟨rfl, rfl⟩
theorem copyCheck (B b : Nat) (bs : List Value) (w : World) (h : Lib.IsBuilderF 57 5 B b bs w) :
    Calls Tryz.prog 65 #[.pointer (some ⟨b, 0, none⟩)] w fun e w' => e = .returned (.tuple #[]) ∧ (Lib.BuilderAtF 57 5 B b (.pointer (some ⟨b, 0, none⟩)) bs w' ∧ Below B w w' ∧ Lib.OthersKept 5 (some b) w w') := by
  rcases h with h | h
  · refine (copyCheck_fresh b w h.cell0 h.shape h.frozen0).mono ?_
    rintro e w' ⟨rfl, rfl⟩
    exact ⟨rfl, h.used _, (Below.refl B w).setCell (p := ⟨b, 0, none⟩) h.1 _, (Lib.OthersKept.refl _ _ w).setCell ⟨b, 0, none⟩ rfl _⟩
  · refine (copyCheck_used b w h.cell0).mono ?_
    rintro e w' ⟨rfl, rfl⟩
    exact ⟨rfl, h, Below.refl B _, Lib.OthersKept.refl _ _ _⟩
set_option maxHeartbeats 1000000 in
theorem writeString (B b : Nat) (bs : List Value) (s : ByteArray) (w : World) (h : Lib.IsBuilderF 57 5 B b bs w) (hlen : bs.length + s.size ≤ 140737488355328) (hBw : B ≤ w.heap.size) :
    Calls Tryz.prog 32 #[.pointer (some ⟨b, 0, none⟩), .string s] w fun e w' => e = .returned (.tuple #[.int .i64 s.size, .nilIface]) ∧ (Lib.BuilderAtF 57 5 B b (.pointer (some ⟨b, 0, none⟩)) (bs ++ Lib.strCells s) w' ∧ Below B w w' ∧ Lib.OthersKept 5 (some b) w w') := by
  obtain ⟨i0, hi, hz0, hz1, hz2⟩ := info_parts X.infoByte
  have t9 : Tryz.prog.underlying 9 = some TypeDesc.string := by kernel_rfl
  go_enter Tryz.func32, Tryz.ntmps32
  go_wp2_with (go_at_call 65; refine (copyCheck B b bs _ h).mono ?_)
  rintro e w1 ⟨rfl, h1, hb1, hk1⟩
  obtain ⟨hB, v, hbk, hown, hne⟩ := h1
  have c0 : w1.cell? ⟨b, 0, none⟩ = some (.pointer (some ⟨b, 0, none⟩)) := by rw [Lib.cell_of_heap hbk]; rfl
  have c1 : w1.cell? ⟨b, 1, none⟩ = some v := by rw [Lib.cell_of_heap hbk]; rfl
  go_wp2_with (at_builtin; refine Lib.wpList_append_own_stringF _ rfl _ _ 55 9 rfl B 5 i0 Tryz.lays169.t37 t9 hi hz0 hz1 hz2 _ _ _ rfl hown s rfl ?c3 ?c4 ?c5 ?_)
  case c3 => unfold maxLen; omega
  case c4 => omega
  case c5 => have := hb1.size; omega
  intro v' w2 hown' hgrow _
  have hlt : b < w1.heap.size := by
    rcases Nat.lt_or_ge b w1.heap.size with h' | h'
    · exact h'
    · simp [Array.getElem?_eq_none h'] at hbk
  have hb2 : w2.heap[b]? = some (.cells #[.pointer (some ⟨b, 0, none⟩), v] 57 (0, 0)) := by
    rw [hgrow.block b hlt (fun e => hne e.symm)]
    exact hbk
  have d0 : w2.cell? ⟨b, 0, none⟩ = some (.pointer (some ⟨b, 0, none⟩)) := by rw [Lib.cell_of_heap hb2]; rfl
  have d1 : w2.cell? ⟨b, 1, none⟩ = some v := by rw [Lib.cell_of_heap hb2]; rfl
  have f1 : w2.frozen? ⟨b, 1, none⟩ = false := Lib.frozen_of_heap hb2 1
  obtain ⟨ao, n', cap, rfl⟩ : ∃ ao n' cap, v' = .slice ao n' cap := by
    rcases hown'.2 with ⟨hv, _⟩ | ⟨g, cap, cur, fz, hv, _⟩
    · exact ⟨_, _, _, hv⟩
    · exact ⟨_, _, _, hv⟩
  go_wp2_with fail
  go_ret2
  refine ⟨rfl, ?_, ?_, (hk1.grown hgrow (Lib.ownsRowF_kind hown)).setCell ⟨b, 1, none⟩ rfl _⟩
  · exact Lib.BuilderAtF.put (T := 57) (e := 5) hB hb2 (bs' := bs ++ Lib.strCells s) (by simpa [Lib.strCells_length] using hown') X.neB5
  · exact (hb1.grown hgrow (by have := hb1.size; omega) (fun k hk => (hown.lt k hk).1)).setCell (p := ⟨b, 1, none⟩) hB _
set_option maxHeartbeats 1000000 in
theorem writeByte (B b : Nat) (bs : List Value) (c : Int) (w : World) (h : Lib.IsBuilderF 57 5 B b bs w) (hlen : bs.length + 1 ≤ 140737488355328) (hBw : B ≤ w.heap.size) :
    Calls Tryz.prog 160 #[.pointer (some ⟨b, 0, none⟩), .int .u8 c] w fun e w' => e = .returned .nilIface ∧ (Lib.BuilderAtF 57 5 B b (.pointer (some ⟨b, 0, none⟩)) (bs ++ [.int .u8 c]) w' ∧ Below B w w' ∧ Lib.OthersKept 5 (some b) w w') := by
  obtain ⟨i0, hi, hz0, hz1, hz2⟩ := info_parts X.infoByte
  go_enter Tryz.func160, Tryz.ntmps160
  go_wp2_with (go_at_call 65; refine (copyCheck B b bs _ h).mono ?_)
  rintro e w1 ⟨rfl, h1, hb1, hk1⟩
  obtain ⟨hB, v, hbk, hown, hne⟩ := h1
  have c0 : w1.cell? ⟨b, 0, none⟩ = some (.pointer (some ⟨b, 0, none⟩)) := by rw [Lib.cell_of_heap hbk]; rfl
  have c1 : w1.cell? ⟨b, 1, none⟩ = some v := by rw [Lib.cell_of_heap hbk]; rfl
  go_wp2_with (at_builtin; refine wpList_append_ownF _ rfl _ _ 55 rfl B 5 i0 (.int .u8 0) 1 1 Tryz.lays169.t37 hi hz0 hz1 hz2 rfl (by decide) _ _ _ rfl (hown.alloc _) ⟨w1.heap.size, 0, none⟩ 1 1 [.int .u8 c] rfl rfl ?c1 ?c2 ?c3 ?c4 ?c5 ?_)
  case c1 =>
    intro j u hj
    match j, hj with
    | 0, hj => simp at hj; subst hj; simp [Addr.add]
  case c2 => intro u hu; simp at hu; subst hu; rfl
  case c3 => unfold maxLen; omega
  case c4 => omega
  case c5 => have := hb1.size; simp; omega
  intro v' w2 hown' hgrow _
  have hlt : b < w1.heap.size := by
    rcases Nat.lt_or_ge b w1.heap.size with h' | h'
    · exact h'
    · simp [Array.getElem?_eq_none h'] at hbk
  have hb2 : w2.heap[b]? = some (.cells #[.pointer (some ⟨b, 0, none⟩), v] 57 (0, 0)) := by
    rw [hgrow.block b (by simp; omega) (fun e => hne e.symm), Lib.alloc_old w1 _ b hlt]
    exact hbk
  have d0 : w2.cell? ⟨b, 0, none⟩ = some (.pointer (some ⟨b, 0, none⟩)) := by rw [Lib.cell_of_heap hb2]; rfl
  have d1 : w2.cell? ⟨b, 1, none⟩ = some v := by rw [Lib.cell_of_heap hb2]; rfl
  have f1 : w2.frozen? ⟨b, 1, none⟩ = false := Lib.frozen_of_heap hb2 1
  obtain ⟨g, cap, rfl⟩ : ∃ g cap, v' = .slice (some ⟨g, 0, none⟩) (bs.length + 1) cap := by
    rcases hown'.2 with ⟨_, h0⟩ | ⟨g, cap, cur, fz, hv, _⟩
    · omega
    · exact ⟨g, cap, hv⟩
  go_wp2_with fail
  go_ret
  refine ⟨rfl, ?_, ?_, ((hk1.alloc _).grown hgrow (Lib.ownsRowF_kind (hown.alloc _))).setCell ⟨b, 1, none⟩ rfl _⟩
  · exact Lib.BuilderAtF.put (T := 57) (e := 5) hB hb2 (bs' := bs ++ [.int .u8 c]) (by simpa using hown') X.neB5
  · exact ((hb1.alloc (by have := hb1.size; omega) _).grown hgrow (by have := hb1.size; simp; omega) (fun k hk => (hown.lt k hk).1)).setCell (p := ⟨b, 1, none⟩) hB _
end Go.Proofs.YtcplaafmelcndaaGreatDoor.Bld
end
section
/- atom.Text by hand: a builder behind the kids' texts. -/
set_option linter.unusedVariables false
set_option linter.unusedSimpArgs false
set_option maxRecDepth 20000
namespace Go.Proofs.YtcplaafmelcndaaGreatDoor.At
open Go.RowKit Go.Lib Go.Proofs.YtcplaafmelcndaaGreatDoor.Pr Go.Proofs.YtcplaafmelcndaaGreatDoor.Bld Go.Proofs.YtcplaafmelcndaaGreatDoorW.PrintWords
/-- The texts that are kids. -/
def textL : List S25 → List UInt8
  | [] => []
  | x :: l => (if x.f0 = 1 then x.f5.data.toList else []) ++ textL l
theorem textL_append (a b : List S25) : textL (a ++ b) = textL a ++ textL b := by
  induction a with
  | nil => rfl
  | cons x a ih => simp [textL, ih]
theorem textL_take (l : List S25) (i : Nat) (h : i < l.length) : textL (l.take (i + 1)) = textL (l.take i) ++ (if l[i].f0 = 1 then l[i].f5.data.toList else []) := by
  rw [List.take_succ_eq_append_getElem h, textL_append]
  simp [textL]
theorem textL_take_le (l : List S25) (i : Nat) : (textL (l.take i)).length ≤ (textL l).length := by
  conv => rhs; rw [← List.take_append_drop i l, textL_append]
  simp
theorem rd_at (l : List S25) (i : Nat) (h : i < l.length) : rd_T25 l (i : Int) = l[i] := by
  unfold rd_T25
  simp [h]
def atom_Text.f (k : Nat) (a0_0 : Int) (a0_1 : ByteArray) (a0_2 : ByteArray) (l0_3 : List (S41)) (l0_4 : List (S25)) (a0_5 : ByteArray) : Option (ByteArray) := if l0_4.length ≤ 1000000000000 ∧ (textL l0_4).length ≤ 140737488355328 then some ⟨(textL l0_4).toArray⟩ else none
theorem atom_Text.calls (k : Nat) (a0_0 : Int) (a0_1 : ByteArray) (a0_2 : ByteArray) (A0_3 : Option Addr) (c0_3 : Nat) (l0_3 : List (S41)) (A0_4 : Option Addr) (c0_4 : Nat) (l0_4 : List (S25)) (a0_5 : ByteArray) (r : ByteArray) (w : World) (hr0_3 : Kd.C k41 w A0_3 l0_3.length l0_3) (hc0_3 : l0_3.length ≤ c0_3) (hr0_4 : Kd.C k25 w A0_4 l0_4.length l0_4) (hc0_4 : l0_4.length ≤ c0_4) (h : atom_Text.f k a0_0 a0_1 a0_2 l0_3 l0_4 a0_5 = some r) :
    Calls Tryz.prog 12 #[.agg #[.int .i64 a0_0, .string a0_1, .string a0_2, .slice A0_3 l0_3.length c0_3, .slice A0_4 l0_4.length c0_4, .string a0_5]] w fun e w' => e = .returned (.string r) ∧ Below w.heap.size w w' := by
  unfold atom_Text.f at h
  split at h
  case isFalse => cases h
  case isTrue hlen =>
  obtain rfl := Option.some.inj h
  clear h
  have HR4 := Lib.hid hr0_4
  have HLEN := Lib.hid hlen
  have hlm2 : (l0_4.length : Int) < 9223372036854775807 := by omega
  clear hr0_3 hr0_4 hlen
  go_enter Tryz.func12, Tryz.ntmps12
  go_wp2_with fail
  obtain ⟨W1, hW1⟩ : ∃ W1, W1 = w.alloc (Obj.cells #[.int .i64 a0_0, .string a0_1, .string a0_2, .slice A0_3 l0_3.length c0_3, .slice A0_4 l0_4.length c0_4, .string a0_5] 25) := ⟨_, rfl⟩
  have hsz : W1.heap.size = w.heap.size + 1 := by rw [hW1]; simp
  have HBW : Below w.heap.size w W1 := by rw [hW1]; exact (Below.refl _ _).alloc (Nat.le_refl _) _
  rw [← hW1]
  have HSZ := Lib.hid hsz
  have HBW' := Lib.hid HBW
  clear HBW hW1 hsz
  go_loopg [9] l0_4.length (fun kx s9 wr => ∃ i : Nat, s9 = .int .i64 (i : Int) ∧ i ≤ l0_4.length ∧ l0_4.length - i ≤ kx ∧ Hid (Below (w.heap.size + 1) W1 wr ∧ Lib.IsBuilderF 57 5 (w.heap.size + 1) (w.heap.size + 1) (Lib.byteCells (textL (l0_4.take i))) wr))
  case atStart =>
    refine ⟨0, rfl, by omega, by omega, ⟨(Below.refl _ _).alloc (by rw [HSZ.out]; exact Nat.le_refl _) _, ?_⟩⟩
    have h9 := Lib.IsBuilderF.of (Lib.fresh_isBuilder 57 5 W1)
    rw [HSZ.out] at h9
    exact h9
  case round =>
    obtain ⟨i, rfl, hi, hkx, HW⟩ := hrel
    by_cases hlt : i < l0_4.length
    · obtain ⟨ad, A3, c3, A4, c4, ea, hx0, hx1, hx2, hx3, hx4, hx5, -, -, -, -⟩ := at_T25 HR4.out (i : Int) (by omega) (by omega)
      cases ea
      have kp : ∀ {a : Addr} {v : Value}, w.cell? a = some v → wr.cell? a = some v := by
        intro a v hv
        have h1 := World.block_lt_of_cell? w _ hv
        exact (HW.out.1.cell (by omega)).trans ((HBW'.out.cell h1).trans hv)
      replace hx0 := kp hx0
      replace hx1 := kp hx1
      replace hx2 := kp hx2
      replace hx3 := kp hx3
      replace hx4 := kp hx4
      replace hx5 := kp hx5
      rw [rd_at l0_4 i hlt] at hx0 hx1 hx2 hx3 hx4 hx5
      obtain ⟨y, hy⟩ : ∃ y, y = l0_4[i] := ⟨_, rfl⟩
      rw [← hy] at hx0 hx1 hx2 hx3 hx4 hx5
      rw [Int.toNat_natCast] at hx0 hx1 hx2 hx3 hx4 hx5
      have HY : Hid (textL (l0_4.take (i + 1)) = textL (l0_4.take i) ++ (if y.f0 = 1 then y.f5.data.toList else [])) := Lib.hid (by rw [hy]; exact textL_take l0_4 i hlt)
      have HI := Lib.hid (And.intro hlt hkx)
      clear hy kp
      have p1 : decide ((0 : Int) ≤ (i : Int)) = true := decide_eq_true (by omega)
      have q1 : decide ((i : Int) < (l0_4.length : Int)) = true := decide_eq_true (by omega)
      have p2 := eq_true (show (0 : Int) ≤ (i : Int) by omega)
      have q2 := eq_true (show (i : Int) < (l0_4.length : Int) by omega)
      clear hi hkx hlt hlm2
      have hbw : Below (w.heap.size + 1) W1 (wr.alloc (.cells #[.int .i64 y.f0, .string y.f1, .string y.f2, .slice A3 y.f3.length c3, .slice A4 y.f4.length c4, .string y.f5] 25)) := HW.out.1.alloc (by have := HW.out.1.size; have := HSZ.out; omega) _
      have hbb : Lib.IsBuilderF 57 5 (w.heap.size + 1) (w.heap.size + 1) (Lib.byteCells (textL (l0_4.take i))) (wr.alloc (.cells #[.int .i64 y.f0, .string y.f1, .string y.f2, .slice A3 y.f3.length c3, .slice A4 y.f4.length c4, .string y.f5] 25)) := HW.out.2.alloc _
      have HBW2 := Lib.hid hbw
      have HBB := Lib.hid hbb
      clear hbw hbb
      by_cases h1 : y.f0 = 1
      · have h1' : (y.f0 == 1) = true := by simp [h1]
        have hy2 : textL (l0_4.take (i + 1)) = textL (l0_4.take i) ++ y.f5.data.toList := by rw [HY.out, if_pos h1]
        have HY2 := Lib.hid hy2
        have hle : (textL (l0_4.take i)).length + y.f5.size ≤ 140737488355328 := by
          have h3 := textL_take_le l0_4 (i + 1)
          rw [hy2, List.length_append] at h3
          have h4 : y.f5.data.toList.length = y.f5.size := by rw [Array.length_toList]; rfl
          have h5 := HLEN.out.2
          omega
        have HLE := Lib.hid hle
        clear h1 hy2 hle
        go_wp2_with (go_at_call 32; refine (writeString (w.heap.size + 1) (w.heap.size + 1) _ y.f5 _ HBB.out (by rw [Lib.byteCells_length]; exact HLE.out) (by have := HBW2.out.size; have := HSZ.out; omega)).mono ?_)
        rintro e w2 ⟨rfl, h2, hb2, -⟩
        have HB2 := Lib.hid hb2
        have HR2 := Lib.hid h2
        clear h2 hb2
        go_wp2_with fail
        go_roundg (l0_4.length - (i + 1))
        case measure => have := HI.out; omega
        case rel => exact ⟨i + 1, by rw [Go.IntWalk.wrap64_in _ (by have := HI.out; have := HLEN.out; omega)]; rfl, by have := HI.out; omega, Nat.le_refl _, ⟨HBW2.out.trans HB2.out, by rw [HY2.out, Lib.byteCells_append, ← Lib.strCells_eq]; exact .inr HR2.out⟩⟩
      · have h1' : (y.f0 == 1) = false := by simp [h1]
        have hy2 : textL (l0_4.take (i + 1)) = textL (l0_4.take i) := by rw [HY.out, if_neg h1, List.append_nil]
        have HY2 := Lib.hid hy2
        clear h1 hy2
        go_wp2_with fail
        go_roundg (l0_4.length - (i + 1))
        case measure => have := HI.out; omega
        case rel => exact ⟨i + 1, by rw [Go.IntWalk.wrap64_in _ (by have := HI.out; have := HLEN.out; omega)]; rfl, by have := HI.out; omega, Nat.le_refl _, ⟨HBW2.out, by rw [HY2.out]; exact HBB.out⟩⟩
    · obtain rfl : i = l0_4.length := by omega
      have q1 : decide ((l0_4.length : Int) < (l0_4.length : Int)) = false := decide_eq_false (by omega)
      have HB := Lib.hid (show Lib.IsBuilderF 57 5 (w.heap.size + 1) (w.heap.size + 1) (Lib.byteCells (textL l0_4)) wr by have := HW.out.2; rwa [List.take_length] at this)
      clear hi hkx hlt hlm2
      go_wp2_with (go_at_call 33; refine (Tryz.Builder_String_any_k (w.heap.size + 1) (w.heap.size + 1) _ _ HB.out (by have := HW.out.1.size; have := HSZ.out; omega)).mono ?_)
      rintro e w2 ⟨rfl, -, hb2, -⟩
      go_wp2_with fail
      go_ret
      exact ⟨rfl, HBW'.out.trans ((HW.out.1.trans hb2).mono (by have := HSZ.out; omega))⟩
end Go.Proofs.YtcplaafmelcndaaGreatDoor.At
end
section
/- atom.All over nodes that are read; atom.field and atom.person by hand. -/
set_option linter.unusedVariables false
set_option linter.unusedSimpArgs false
set_option maxRecDepth 20000
namespace Go.Proofs.YtcplaafmelcndaaGreatDoor.At
open Go.RowKit Go.Lib Go.Proofs.YtcplaafmelcndaaGreatDoor.Pr Go.Proofs.YtcplaafmelcndaaGreatDoorW.PrintWords Go.Proofs.YtcplaafmelcndaaGreatDoorW.PrintMore
/-- A node none of whose parts is great. -/
inductive Sm : S25 → Prop
  | mk (x : S25) : x.f1.size ≤ 3000 → x.f2.size ≤ 3000 → x.f5.size ≤ 3000 → x.f3.length ≤ 3000 → x.f4.length ≤ 3000 → (∀ a ∈ x.f3, a.f0.size ≤ 3000 ∧ a.f1.size ≤ 3000 ∧ a.f2.size ≤ 3000) → (∀ y ∈ x.f4, Sm y) → Sm x
theorem Sm.len {x : S25} (h : Sm x) : x.f4.length ≤ 3000 := by cases h; assumption
theorem Sm.len3 {x : S25} (h : Sm x) : x.f3.length ≤ 3000 := by cases h; assumption
theorem Sm.data {x : S25} (h : Sm x) : x.f5.size ≤ 3000 := by cases h; assumption
theorem Sm.attrs {x : S25} (h : Sm x) : ∀ a ∈ x.f3, a.f0.size ≤ 3000 ∧ a.f1.size ≤ 3000 ∧ a.f2.size ≤ 3000 := by cases h; assumption
theorem Sm.kids {x : S25} (h : Sm x) : ∀ y ∈ x.f4, Sm y := by cases h; assumption
theorem textL_len (l : List S25) (h : ∀ y ∈ l, y.f5.size ≤ 3000) : (textL l).length ≤ 3000 * l.length := by
  induction l with
  | nil => simp [textL]
  | cons x l ih =>
    have h1 := ih (fun y hy => h y (List.mem_cons_of_mem _ hy))
    have h2 := h x (List.mem_cons_self ..)
    have h3 : x.f5.data.toList.length = x.f5.size := by rw [Array.length_toList]; rfl
    unfold textL
    rw [List.length_append, List.length_cons]
    split
    · omega
    · simp; omega
/-- A node's text without space about it. -/
def trimV (l : List S25) : ByteArray := ⟨(Lib.trimS (textL l) [32, 9, 13, 10]).toArray⟩
theorem trimS_le (l cs : List UInt8) : (Lib.trimS l cs).length ≤ l.length := by
  have h : ∀ (p : UInt8 → Bool) (l : List UInt8), (l.dropWhile p).length ≤ l.length := by
    intro p l
    induction l with
    | nil => simp
    | cons c l ih =>
      rw [List.dropWhile_cons]
      split
      · simp; omega
      · exact Nat.le_refl _
  unfold Lib.trimS Lib.trimLeftS Lib.trimRightS
  refine Nat.le_trans (h _ _) ?_
  rw [List.length_reverse]
  refine Nat.le_trans (h _ _) ?_
  rw [List.length_reverse]
  exact Nat.le_refl _
theorem trimV_size {x : S25} (h : Sm x) : (trimV x.f4).size ≤ 9000000 := by
  have h1 := textL_len x.f4 (fun y hy => (h.kids y hy).data)
  have h2 := trimS_le (textL x.f4) [32, 9, 13, 10]
  have h3 := h.len
  show (Lib.trimS (textL x.f4) [32, 9, 13, 10]).toArray.size ≤ _
  rw [List.size_toArray]
  omega
/-- Nodes that are read, with their cells. -/
structure Nds (w : World) (A : Option Addr) (Z : List Pm) : Prop where
  cels : Kd.C kCel w A Z.length (Z.map (·.c))
  node : ∀ z ∈ Z, k25.K w z.x z.c.enc
theorem Nds.below {w w1 : World} {A : Option Addr} {Z : List Pm} (h : Nds w A Z) (hb : Below w.heap.size w w1) : Nds w1 A Z := ⟨Kd.C_below h.cels hb, fun z hz => k25.K_below hb (h.node z hz)⟩
/-- The kids of a node. -/
theorem kids_of {w : World} {z : Pm} (h : k25.K w z.x z.c.enc) : ∃ Z : List Pm, Z.map (·.x) = z.x.f4 ∧ Nds w z.c.A4 Z ∧ z.c.n4 = Z.length := by
  obtain ⟨l3, g3, l4, g4⟩ := pm_rows z h
  obtain ⟨Z, h1, h2, h3⟩ := cels_of g4
  refine ⟨Z, h1, ⟨by rw [List.length_map] at h2; exact h2, h3⟩, ?_⟩
  rw [z.e4, ← h1, List.length_map]
/-- The kids of Atom of a name, with their cells. -/
def allZ (Z : List Pm) (name : ByteArray) : List Pm := Z.filter fun z => isV z.x atomB name
theorem allZ_x (Z : List Pm) (name : ByteArray) : (allZ Z name).map (·.x) = allV (Z.map (·.x)) name := by
  unfold allZ allV
  rw [List.filter_map]
  rfl
theorem all_pm (z : Pm) (Z : List Pm) (name : ByteArray) (w : World) (hK : k25.K w z.x z.c.enc) (hZ : Nds w z.c.A4 Z) (hn : z.c.n4 = Z.length) (hl : Z.length ≤ 3000) :
    Calls Tryz.prog 26 #[.agg z.c.enc.toArray, .string name] w fun e w' => ∃ A' c', e = .returned (.slice A' (allZ Z name).length c') ∧ Nds w' A' (allZ Z name) ∧ Below w.heap.size w w' := by
  obtain ⟨x, ⟨y0, y1, y2, A3, n3, c3, A4, n4, c4, y5⟩, e0, e1, e2, e3, e4, e5⟩ := z
  simp only at hK hZ hn
  subst hn
  show Calls Tryz.prog 26 #[.agg #[.int .i64 y0, .string y1, .string y2, .slice A3 n3 c3, .slice A4 Z.length c4, .string y5], .string name] w fun e w' => ∃ A' c', e = .returned (.slice A' (allZ Z name).length c') ∧ Nds w' A' (allZ Z name) ∧ Below w.heap.size w w'
  clear e0 e1 e2 e3 e4 e5 hK
  have hC := hZ.cels
  have hnd := hZ.node
  obtain ⟨W1, hW1⟩ : ∃ W1, W1 = (w.alloc (.cells #[.int .i64 y0, .string y1, .string y2, .slice A3 n3 c3, .slice A4 Z.length c4, .string y5] 25)).alloc (.cells #[.string name] 9) := ⟨_, rfl⟩
  have hB1 : Below w.heap.size w W1 := by rw [hW1]; exact ((Below.refl _ _).alloc (Nat.le_refl _) _).alloc (by simp) _
  have hbn : W1.cell? ⟨w.heap.size + 1, 0, none⟩ = some (.string name) := by
    have h5 : W1.heap[w.heap.size + 1]? = some (.cells #[.string name] 9 (0, 0)) := by
      have h6 := heap_alloc_new (w.alloc (.cells #[.int .i64 y0, .string y1, .string y2, .slice A3 n3 c3, .slice A4 Z.length c4, .string y5] 25)) (.cells #[.string name] 9)
      rw [hW1]
      rwa [show (w.alloc (.cells #[.int .i64 y0, .string y1, .string y2, .slice A3 n3 c3, .slice A4 Z.length c4, .string y5] 25)).heap.size = w.heap.size + 1 from Array.size_push _] at h6
    exact (blk_cell h5 0).trans rfl
  have hs1 := all1 Z name (w.heap.size + 1) W1 hbn (fun z hz => k25.K_below hB1 (hnd z hz))
  have hcl := clone A4 c4 (Z.map (·.c)) W1 (by rw [List.length_map]; exact Kd.C_below hC hB1) (by rw [List.length_map]; omega)
  rw [List.length_map] at hcl
  have hfl : (Z.map (·.c)).filter (fun c => !(!isC c atomB name)) = (allZ Z name).map (·.c) := by
    unfold allZ
    rw [List.filter_map]
    congr 1
    apply List.filter_congr
    intro z _
    simp [isC_V]
  have hsz : W1.heap.size = w.heap.size + 2 := by rw [hW1]; simp
  have HW := Lib.hid hW1
  have HC := Lib.hid hcl
  have HS := Lib.hid hs1
  have HB1 := Lib.hid hB1
  have HN := Lib.hid hnd
  have HL := Lib.hid (show (Z.map (·.c)).length ≤ 1000000000000 by rw [List.length_map]; omega)
  have HFL := Lib.hid hfl
  have HSZ := Lib.hid hsz
  clear hcl hs1 hB1 hnd hl hfl hbn hC hsz hW1 hZ
  go_enter Tryz.func26, Tryz.ntmps26
  go_wp2_with (first | (go_at_call 50; rw [← HW.out]; refine HC.out.mono ?_))
  rintro e w2 v1 rfl hR1 hb1
  have HR1 := Lib.hid hR1
  have HB2 := Lib.hid hb1
  clear hR1 hb1
  have hdel := delete 51 #[.pointer (some ⟨w.heap.size + 1, 0, none⟩)] (fun args w => rfl) (fun c => !isC c atomB name) v1 (Z.map (·.c)) W1 w2 HB2.out HR1.out HS.out HL.out
  rw [HFL.out] at hdel
  have HD := Lib.hid hdel
  clear hdel
  go_wp2_with (go_at_call 49; refine HD.out.mono ?_)
  rintro e w3 ⟨v2, rfl, hR2, hb3⟩
  go_wp2_with fail
  go_ret
  obtain ⟨A', c', hv, _, hC2⟩ := Kd.R_reads hR2
  rw [List.length_map] at hv hC2
  have hb : Below w.heap.size w w3 := HB1.out.trans (hb3.mono HB1.out.size)
  exact ⟨A', c', by rw [← hv]; rfl, ⟨hC2, fun z hz => k25.K_below hb (HN.out z (List.mem_filter.1 hz).1)⟩, hb⟩
theorem cellKeep {w w' : World} (hb : Below w.heap.size w w') {a : Addr} {v : Value} (hv : w.cell? a = some v) : w'.cell? a = some v := (hb.cell (World.block_lt_of_cell? w _ hv)).trans hv
/-- A node's cells in a block of their own. -/
theorem box6 {w : World} {b : Nat} {v0 v1 v2 v3 v4 v5 : Value} (h : w.heap[b]? = some (.cells #[v0, v1, v2, v3, v4, v5] 25 (0, 0))) : w.cell? ⟨b, 0, none⟩ = some v0 ∧ w.cell? ⟨b, 1, none⟩ = some v1 ∧ w.cell? ⟨b, 2, none⟩ = some v2 ∧ w.cell? ⟨b, 3, none⟩ = some v3 ∧ w.cell? ⟨b, 4, none⟩ = some v4 ∧ w.cell? ⟨b, 5, none⟩ = some v5 :=
  ⟨(blk_cell h 0).trans rfl, (blk_cell h 1).trans rfl, (blk_cell h 2).trans rfl, (blk_cell h 3).trans rfl, (blk_cell h 4).trans rfl, (blk_cell h 5).trans rfl⟩
theorem plain_pm (z : Pm) (w : World) (hK : k25.K w z.x z.c.enc) (hl : z.x.f4.length ≤ 3000) :
    Calls Tryz.prog 42 #[.agg z.c.enc.toArray] w fun e w' => e = .returned (.bool (plainV z.x.f4)) ∧ Below w.heap.size w w' := by
  obtain ⟨l3, g3, l4, g4⟩ := pm_rows z hK
  obtain ⟨x, ⟨y0, y1, y2, A3, n3, c3, A4, n4, c4, y5⟩, e0, e1, e2, e3, e4, e5⟩ := z
  simp only at e0 e1 e2 e3 e4 e5 l3 g3 l4 g4 hl
  subst e0 e1 e2 e3 e4 e5
  exact atom_plain.calls 0 _ _ _ A3 c3 x.f3 A4 c4 x.f4 _ (plainV x.f4) w g3 l3 g4 l4 (by unfold atom_plain.f; rw [if_pos (by omega)])
/-- What lies below atom.person, as it is answered. -/
structure Lower (refF : ByteArray → Bool → Bool) (adrF : ByteArray → Bool) : Prop where
  ref : ∀ (s : ByteArray) (whole : Bool) (w : World), LaidW w → s.size ≤ 9000000 → Calls Tryz.prog 38 #[.string s, .bool whole] w fun e w' => e = .returned (.bool (refF s whole)) ∧ Below w.heap.size w w'
  adr : ∀ (s : ByteArray) (w : World), s.size ≤ 9000000 → Calls Tryz.prog 39 #[.string s] w fun e w' => e = .returned (.bool (adrF s)) ∧ Below w.heap.size w w'
  trim : ∀ (z : Pm) (w : World), k25.K w z.x z.c.enc → Sm z.x → Calls Tryz.prog 41 #[.agg z.c.enc.toArray] w fun e w' => e = .returned (.string (trimV z.x.f4)) ∧ Below w.heap.size w w'
/-- A test of texts. -/
def SaysS (g : Nat) (q : ByteArray → Bool) : Prop := ∀ (s : ByteArray) (w : World), LaidW w → s.size ≤ 9000000 → Calls Tryz.prog g #[.string s] w fun e w' => e = .returned (.bool (q s)) ∧ Below w.heap.size w w'
def fieldV (l : List S25) (name : ByteArray) (must : Bool) (q : ByteArray → Bool) : Bool := match allV l name with
  | [] => !must
  | [y] => plainV y.f4 && q (trimV y.f4)
  | _ => false
def fieldZ (Z : List Pm) (name : ByteArray) (must : Bool) (q : ByteArray → Bool) : Bool := match allZ Z name with
  | [] => !must
  | [y] => plainV y.x.f4 && q (trimV y.x.f4)
  | _ => false
theorem fieldZ_x (Z : List Pm) (name : ByteArray) (must : Bool) (q : ByteArray → Bool) : fieldZ Z name must q = fieldV (Z.map (·.x)) name must q := by
  unfold fieldZ fieldV
  rw [← allZ_x]
  cases allZ Z name with
  | nil => rfl
  | cons y l => cases l <;> rfl
set_option maxHeartbeats 4000000 in
theorem field_any {refF : ByteArray → Bool → Bool} {adrF : ByteArray → Bool} (L : Lower refF adrF) (z : Pm) (name : ByteArray) (must : Bool) (g : Nat) (eg : ∀ args w, (callFunc g args).run Tryz.prog w = .ok (.enter g args) w) (q : ByteArray → Bool) (hq : SaysS g q) (w : World) (hG : LaidW w) (hK : k25.K w z.x z.c.enc) (hS : Sm z.x) :
    Calls Tryz.prog 35 #[.agg z.c.enc.toArray, .string name, .bool must, .func (.func g) #[] #[]] w fun e w' => e = .returned (.bool (fieldV z.x.f4 name must q)) ∧ Below w.heap.size w w' := by
  obtain ⟨Z, hZx, hN, hn⟩ := kids_of hK
  have hlen : Z.length ≤ 3000 := by have := hS.len; rw [← hZx, List.length_map] at this; exact this
  obtain ⟨W1, hW1⟩ : ∃ W1, W1 = w.alloc (.cells z.c.enc.toArray 25) := ⟨_, rfl⟩
  have hB1 : Below w.heap.size w W1 := by rw [hW1]; exact (Below.refl _ _).alloc (Nat.le_refl _) _
  have hall := all_pm z Z name W1 (k25.K_below hB1 hK) (hN.below hB1) hn hlen
  have hsm : ∀ y ∈ allZ Z name, Sm y.x := fun y hy => hS.kids y.x (by rw [← hZx]; exact List.mem_map.2 ⟨y, (List.mem_filter.1 hy).1, rfl⟩)
  obtain ⟨R, hR⟩ : ∃ R, fieldV z.x.f4 name must q = R := ⟨_, rfl⟩
  rw [hR]
  rw [← hZx, ← fieldZ_x] at hR
  unfold fieldZ at hR
  have hG1 := hG.step hB1
  generalize allZ Z name = Z1 at hall hsm hR
  obtain ⟨x, ⟨y0, y1, y2, A3, n3, c3, A4, n4, c4, y5⟩, e0, e1, e2, e3, e4, e5⟩ := z
  simp only at hall hW1
  show Calls Tryz.prog 35 #[.agg #[.int .i64 y0, .string y1, .string y2, .slice A3 n3 c3, .slice A4 n4 c4, .string y5], .string name, .bool must, .func (.func g) #[] #[]] w fun e w' => e = .returned (.bool R) ∧ Below w.heap.size w w'
  have hW1' : W1 = w.alloc (.cells #[.int .i64 y0, .string y1, .string y2, .slice A3 n3 c3, .slice A4 n4 c4, .string y5] 25) := hW1
  have hall' : Calls Tryz.prog 26 #[.agg #[.int .i64 y0, .string y1, .string y2, .slice A3 n3 c3, .slice A4 n4 c4, .string y5], .string name] W1 fun e w' => ∃ A' c', e = .returned (.slice A' Z1.length c') ∧ Nds w' A' Z1 ∧ Below W1.heap.size W1 w' := hall
  have HA := Lib.hid hall'
  have HW := Lib.hid hW1'
  have HB := Lib.hid hB1
  have HG := Lib.hid hG1
  have HSM := Lib.hid hsm
  have HQ := Lib.hid hq
  have HL := Lib.hid L
  clear hall hall' hW1 hW1' hB1 hG1 hG hsm hq L hK hS hN hn hlen hZx e0 e1 e2 e3 e4 e5
  cases Z1 with
  | nil =>
    have HR := Lib.hid (show (!must) = R from hR)
    clear hR
    go_enter Tryz.func35, Tryz.ntmps35
    go_wp2_with (first | (go_at_call 26; rw [← HW.out]; refine HA.out.mono ?_))
    rintro e w2 ⟨A', c', rfl, hN2, hb2⟩
    have HB2 := Lib.hid (HB.out.trans (hb2.mono HB.out.size))
    clear hN2 hb2
    go_wp2_with fail
    go_ret
    exact ⟨by rw [← HR.out]; rfl, HB2.out⟩
  | cons y Z2 =>
    cases Z2 with
    | nil =>
      have HR := Lib.hid (show (plainV y.x.f4 && q (trimV y.x.f4)) = R from hR)
      have HY := Lib.hid (HSM.out y (by simp))
      clear hR
      go_enter Tryz.func35, Tryz.ntmps35
      go_wp2_with (first | (go_at_call 26; rw [← HW.out]; refine HA.out.mono ?_))
      rintro e w2 ⟨A', c', rfl, hN2, hb2⟩
      have HB2 := Lib.hid (HB.out.trans (hb2.mono HB.out.size))
      have HG2 := Lib.hid (HG.out.step hb2)
      obtain ⟨ad, ea, hx0, hx1, hx2, hx3, hx4, hx5⟩ := cel_at (xs := [y.c]) hN2.cels 0 (by simp)
      cases ea
      simp only [List.getElem_cons_zero, Nat.zero_mul] at hx0 hx1 hx2 hx3 hx4 hx5
      have ea0 : ad.add 0 = ad := by unfold Addr.add; simp
      rw [ea0] at hx0 hx1 hx2 hx3 hx4 hx5
      clear ea0
      have HK2 := Lib.hid (hN2.node y (by simp))
      have hpl := plain_pm y w2 (hN2.node y (by simp)) (by have := HY.out.len; exact this)
      have hpl' : Calls Tryz.prog 42 #[.agg #[.int .i64 y.c.f0, .string y.c.f1, .string y.c.f2, .slice y.c.A3 y.c.n3 y.c.c3, .slice y.c.A4 y.c.n4 y.c.c4, .string y.c.f5]] w2 fun e w' => e = .returned (.bool (plainV y.x.f4)) ∧ Below w2.heap.size w2 w' := hpl
      have HPL := Lib.hid hpl'
      clear hN2 hb2 hpl hpl'
      cases hp : plainV y.x.f4
      · rw [hp] at HPL HR
        have HR2 := Lib.hid (show false = R from HR.out)
        clear hp
        go_wp2_with (first | (go_at_call 42; refine HPL.out.mono ?_))
        rintro e w3 ⟨rfl, hb3⟩
        have HB3 := Lib.hid (HB2.out.trans (hb3.mono HB2.out.size))
        clear hb3
        go_wp2_with fail
        go_ret
        exact ⟨by rw [← HR2.out]; rfl, HB3.out⟩
      · rw [hp] at HPL HR
        have HR2 := Lib.hid (show q (trimV y.x.f4) = R from HR.out)
        clear hp
        go_wp2_with (first | (go_at_call 42; refine HPL.out.mono ?_))
        rintro e w3 ⟨rfl, hb3⟩
        have HB3 := Lib.hid (HB2.out.trans (hb3.mono HB2.out.size))
        have HG3 := Lib.hid (HG2.out.step hb3)
        have htr := HL.out.trim y w3 (k25.K_below hb3 HK2.out) HY.out
        have htr' : Calls Tryz.prog 41 #[.agg #[.int .i64 y.c.f0, .string y.c.f1, .string y.c.f2, .slice y.c.A3 y.c.n3 y.c.c3, .slice y.c.A4 y.c.n4 y.c.c4, .string y.c.f5]] w3 fun e w' => e = .returned (.string (trimV y.x.f4)) ∧ Below w3.heap.size w3 w' := htr
        have HTR := Lib.hid htr'
        replace hx0 := cellKeep hb3 hx0
        replace hx1 := cellKeep hb3 hx1
        replace hx2 := cellKeep hb3 hx2
        replace hx3 := cellKeep hb3 hx3
        replace hx4 := cellKeep hb3 hx4
        replace hx5 := cellKeep hb3 hx5
        clear hb3 htr htr'
        go_wp2_with (first | (go_at_call 41; refine HTR.out.mono ?_))
        rintro e w4 ⟨rfl, hb4⟩
        have HB4 := Lib.hid (HB3.out.trans (hb4.mono HB3.out.size))
        have hqc := HQ.out (trimV y.x.f4) w4 (HG3.out.step hb4) (trimV_size HY.out)
        have HQC := Lib.hid hqc
        clear hb4 hqc
        go_wp2_with fail
        refine HQC.out.mono ?_
        rintro e w5 ⟨rfl, hb5⟩
        have HB5 := Lib.hid (HB4.out.trans (hb5.mono HB4.out.size))
        clear hb5
        go_wp2_with fail
        go_ret
        exact ⟨by rw [← HR2.out]; rfl, HB5.out⟩
    | cons y2 Z3 =>
      have HR := Lib.hid (show false = R from hR)
      clear hR
      go_enter Tryz.func35, Tryz.ntmps35
      go_wp2_with (first | (go_at_call 26; rw [← HW.out]; refine HA.out.mono ?_))
      rintro e w2 ⟨A', c', rfl, hN2, hb2⟩
      have HB2 := Lib.hid (HB.out.trans (hb2.mono HB.out.size))
      clear hN2 hb2
      go_wp2_with fail
      go_ret
      exact ⟨by rw [← HR.out]; rfl, HB2.out⟩
/-- What a person must be. -/
def nameB : ByteArray := ⟨#[110, 97, 109, 101]⟩
def uriB : ByteArray := ⟨#[117, 114, 105]⟩
def emailB : ByteArray := ⟨#[101, 109, 97, 105, 108]⟩
def nonB (s : ByteArray) : Bool := !s.toList.isEmpty
def personV (refF : ByteArray → Bool → Bool) (adrF : ByteArray → Bool) (x : S25) : Bool :=
  fieldV x.f4 nameB true nonB && fieldV x.f4 uriB false (fun s => refF s false) && fieldV x.f4 emailB false adrF
theorem person1 : SaysS 36 nonB := by
  intro s w _ _
  unfold nonB
  go_enter Tryz.func36, Tryz.ntmps36
  go_wp2_with fail
  go_ret
  exact ⟨by first | rfl | (simp; done), Below.refl _ _⟩
theorem person2 {refF : ByteArray → Bool → Bool} {adrF : ByteArray → Bool} (L : Lower refF adrF) : SaysS 37 (fun s => refF s false) := by
  intro s w hG hs
  have C := L.ref s false w hG hs
  show Calls _ _ _ _ fun e w' => e = .returned (.bool (refF s false)) ∧ Below w.heap.size w w'
  generalize refF s false = R at C ⊢
  clear L hG hs
  go_enter Tryz.func37, Tryz.ntmps37
  go_wp2_with (first | (go_at_call 38; refine C.mono ?_))
  rintro e w2 ⟨rfl, hb⟩
  go_wp2_with fail
  go_ret
  exact ⟨rfl, hb⟩
theorem person3 {refF : ByteArray → Bool → Bool} {adrF : ByteArray → Bool} (L : Lower refF adrF) : SaysS 39 adrF := fun s w _ hs => L.adr s w hs
set_option maxHeartbeats 2000000 in
theorem person_any {refF : ByteArray → Bool → Bool} {adrF : ByteArray → Bool} (L : Lower refF adrF) (z : Pm) (w : World) (hG : LaidW w) (hK : k25.K w z.x z.c.enc) (hS : Sm z.x) :
    Calls Tryz.prog 17 #[.agg z.c.enc.toArray] w fun e w' => e = .returned (.bool (personV refF adrF z.x)) ∧ Below w.heap.size w w' := by
  have C1 := fun w' (h : Below w.heap.size w w') => field_any L z nameB true 36 (fun _ _ => rfl) nonB person1 w' (hG.step h) (k25.K_below h hK) hS
  have C2 := fun w' (h : Below w.heap.size w w') => field_any L z uriB false 37 (fun _ _ => rfl) _ (person2 L) w' (hG.step h) (k25.K_below h hK) hS
  have C3 := fun w' (h : Below w.heap.size w w') => field_any L z emailB false 39 (fun _ _ => rfl) _ (person3 L) w' (hG.step h) (k25.K_below h hK) hS
  obtain ⟨R, hR⟩ : ∃ R, personV refF adrF z.x = R := ⟨_, rfl⟩
  rw [hR]
  unfold personV at hR
  obtain ⟨x, ⟨y0, y1, y2, A3, n3, c3, A4, n4, c4, y5⟩, e0, e1, e2, e3, e4, e5⟩ := z
  have hb0 : Below w.heap.size w (w.alloc (.cells #[.int .i64 y0, .string y1, .string y2, .slice A3 n3 c3, .slice A4 n4 c4, .string y5] 25)) := (Below.refl _ _).alloc (Nat.le_refl _) _
  have C1' : ∀ w', Below w.heap.size w w' → Calls Tryz.prog 35 #[.agg #[.int .i64 y0, .string y1, .string y2, .slice A3 n3 c3, .slice A4 n4 c4, .string y5], .string ⟨#[110, 97, 109, 101]⟩, .bool true, .func (.func 36) #[] #[]] w' fun e w'' => e = .returned (.bool (fieldV x.f4 nameB true nonB)) ∧ Below w'.heap.size w' w'' := C1
  have C2' : ∀ w', Below w.heap.size w w' → Calls Tryz.prog 35 #[.agg #[.int .i64 y0, .string y1, .string y2, .slice A3 n3 c3, .slice A4 n4 c4, .string y5], .string ⟨#[117, 114, 105]⟩, .bool false, .func (.func 37) #[] #[]] w' fun e w'' => e = .returned (.bool (fieldV x.f4 uriB false (fun s => refF s false))) ∧ Below w'.heap.size w' w'' := C2
  have C3' : ∀ w', Below w.heap.size w w' → Calls Tryz.prog 35 #[.agg #[.int .i64 y0, .string y1, .string y2, .slice A3 n3 c3, .slice A4 n4 c4, .string y5], .string ⟨#[101, 109, 97, 105, 108]⟩, .bool false, .func (.func 39) #[] #[]] w' fun e w'' => e = .returned (.bool (fieldV x.f4 emailB false adrF)) ∧ Below w'.heap.size w' w'' := C3
  show Calls Tryz.prog 17 #[.agg #[.int .i64 y0, .string y1, .string y2, .slice A3 n3 c3, .slice A4 n4 c4, .string y5]] w fun e w' => e = .returned (.bool R) ∧ Below w.heap.size w w'
  simp only at hR
  generalize fieldV x.f4 nameB true nonB = r1 at C1' hR
  generalize fieldV x.f4 uriB false (fun s => refF s false) = r2 at C2' hR
  generalize fieldV x.f4 emailB false adrF = r3 at C3' hR
  have HC1 := Lib.hid C1'
  have HC2 := Lib.hid C2'
  have HC3 := Lib.hid C3'
  have HR := Lib.hid hR
  have hk0 : (w.alloc (.cells #[.int .i64 y0, .string y1, .string y2, .slice A3 n3 c3, .slice A4 n4 c4, .string y5] 25)).heap[w.heap.size]? = some (.cells #[.int .i64 y0, .string y1, .string y2, .slice A3 n3 c3, .slice A4 n4 c4, .string y5] 25 (0, 0)) := heap_alloc_new _ _
  have HB0 := Lib.hid hb0
  have HK0 := Lib.hid hk0
  clear C1 C2 C3 C1' C2' C3' hR hb0 hk0 hG hK hS e0 e1 e2 e3 e4 e5 L
  cases r1 with
  | false =>
    have HR2 := Lib.hid (show false = R from HR.out)
    go_enter Tryz.func17, Tryz.ntmps17
    go_wp2_with (first | (go_at_call 35; refine (HC1.out _ HB0.out).mono ?_))
    rintro e w2 ⟨rfl, hb⟩
    have HB2 := Lib.hid (HB0.out.trans (hb.mono HB0.out.size))
    clear hb
    go_wp2_with fail
    go_ret
    exact ⟨by rw [← HR2.out]; rfl, HB2.out⟩
  | true =>
    cases r2 with
    | false =>
      have HR2 := Lib.hid (show false = R from HR.out)
      go_enter Tryz.func17, Tryz.ntmps17
      go_wp2_with (first | (go_at_call 35; refine (HC1.out _ HB0.out).mono ?_))
      rintro e w2 ⟨rfl, hb⟩
      have HB2 := Lib.hid (HB0.out.trans (hb.mono HB0.out.size))
      obtain ⟨k0, k1, k2, k3, k4, k5⟩ := box6 (blk_below HK0.out hb)
      clear hb
      go_wp2_with (first | (go_at_call 35; refine (HC2.out _ HB2.out).mono ?_))
      rintro e w3 ⟨rfl, hb⟩
      have HB3 := Lib.hid (HB2.out.trans (hb.mono HB2.out.size))
      clear hb
      go_wp2_with fail
      go_ret
      exact ⟨by rw [← HR2.out]; rfl, HB3.out⟩
    | true =>
      have HR2 := Lib.hid (show r3 = R from HR.out)
      go_enter Tryz.func17, Tryz.ntmps17
      go_wp2_with (first | (go_at_call 35; refine (HC1.out _ HB0.out).mono ?_))
      rintro e w2 ⟨rfl, hb⟩
      have HB2 := Lib.hid (HB0.out.trans (hb.mono HB0.out.size))
      have HK2 := Lib.hid (blk_below HK0.out hb)
      obtain ⟨k0, k1, k2, k3, k4, k5⟩ := box6 HK2.out
      clear hb
      go_wp2_with (first | (go_at_call 35; refine (HC2.out _ HB2.out).mono ?_))
      rintro e w3 ⟨rfl, hb⟩
      have HB3 := Lib.hid (HB2.out.trans (hb.mono HB2.out.size))
      clear k0 k1 k2 k3 k4 k5
      obtain ⟨k0, k1, k2, k3, k4, k5⟩ := box6 (blk_below HK2.out hb)
      clear hb
      go_wp2_with (first | (go_at_call 35; refine (HC3.out _ HB3.out).mono ?_))
      rintro e w4 ⟨rfl, hb⟩
      have HB4 := Lib.hid (HB3.out.trans (hb.mono HB3.out.size))
      clear hb
      go_wp2_with fail
      go_ret
      exact ⟨by rw [← HR2.out]; rfl, HB4.out⟩
end Go.Proofs.YtcplaafmelcndaaGreatDoor.At
end
section
/- The words of kid's walk: a node under way in a block of its own (KI), rows of short texts (PK), El. pick's walk is as printed. -/
set_option linter.unusedVariables false
set_option linter.unusedSimpArgs false
set_option maxRecDepth 20000
namespace Go.Proofs.YtcplaafmelcndaaGreatDoor.At
open Go.RowKit Go.Lib Go.Proofs.YtcplaafmelcndaaGreatDoor.Pr Go.Proofs.YtcplaafmelcndaaGreatDoorW.PrintWords Go.Proofs.YtcplaafmelcndaaGreatDoorW.PrintLast Go.Proofs.YtcplaafmelcndaaGreatDoorW.PrintMore
section
attribute [local go_sem] max2_int min2_int max_two min_two max_three min_three max_four min_four
def broadsheetlaw15_pick.f (a0 : Int) (l1 : List ByteArray) : Option (ByteArray) := if (l1.length : Int) = 0 then (none) else (if 0 ≤ (Int.tmod (wrap64 (a0)) (l1.length : Int)) then (if (Int.tmod (wrap64 (a0)) (l1.length : Int)) < (l1.length : Int) then (some (rdOf ByteArray.empty l1 (Int.tmod (wrap64 (a0)) (l1.length : Int)))) else (none)) else (none))
set_option maxHeartbeats 8000000 in
set_option maxRecDepth 100000 in
theorem broadsheetlaw15_pick.calls (a0 : Int) (A1 : Option Addr) (c1 : Nat) (l1 : List ByteArray) (r : ByteArray) (w : World) (hr1 : Kd.C Kd.string w A1 l1.length l1) (hc1 : l1.length ≤ c1) (h : broadsheetlaw15_pick.f a0 l1 = some r) :
    Calls Tryz.prog 66 #[.int .u8 a0, .slice A1 l1.length c1] w fun e w' => e = .returned (.string r) ∧ Drawn0 w w' := by
  have HR1 := Aside0.mk hr1
  have HC1 := Aside0.mk hc1
  clear hr1 hc1
  have H : (if (l1.length : Int) = 0 then (none) else (if 0 ≤ (Int.tmod (wrap64 (a0)) (l1.length : Int)) then (if (Int.tmod (wrap64 (a0)) (l1.length : Int)) < (l1.length : Int) then (some (rdOf ByteArray.empty l1 (Int.tmod (wrap64 (a0)) (l1.length : Int)))) else (none)) else (none))) = some r := h
  clear h
  by_cases c3 : (l1.length : Int) = 0
  · rw [if_pos c3] at H
    exact absurd H (by simp)
  · rw [if_neg c3] at H
    have c3b0 : ((l1.length : Int) == 0) = false := beq_eq_false_iff_ne.mpr c3
    have c3b1 : ((l1.length : Int) != 0) = true := bne_iff_ne.mpr c3
    have c3b2 : ¬ (l1 = []) := fun h_ => c3 (by rw [h_]; rfl)
    obtain ⟨ji4, hji4⟩ : ∃ j_ : Int, (Int.tmod (wrap64 (a0)) (l1.length : Int)) = j_ := ⟨_, rfl⟩
    replace H : (if 0 ≤ (ji4) then (if (ji4) < (l1.length : Int) then (some (rdOf ByteArray.empty l1 (ji4))) else (none)) else (none)) = some r := by first | (rw [hji4] at H; exact H) | (simp only [hji4] at H ⊢; exact H)
    by_cases c5 : 0 ≤ (ji4)
    · rw [if_pos c5] at H
      have c5b0 : decide (0 ≤ (ji4)) = true := decide_eq_true c5
      clear c5
      by_cases c6 : (ji4) < (l1.length : Int)
      · rw [if_pos c6] at H
        have c6b0 : decide ((ji4) < (l1.length : Int)) = true := decide_eq_true c6
        clear c6
        obtain rfl := Option.some.inj H
        have p659 : 0 ≤ ((ji4) : Int) := of_decide_eq_true (by first | (with_reducible assumption) | assumption)
        have q659 : (ji4) < (l1.length : Int) := of_decide_eq_true (by first | (with_reducible assumption) | assumption)
        obtain ⟨ad659, e659, hx659_0⟩ := Kd.at_string HR1.out (ji4) p659 q659
        cases e659
        replace p659 := eq_true p659
        replace q659 := eq_true q659
        go_enter Tryz.func66, Tryz.ntmps66
        go_wp2
        go_ret
        exact ⟨by first | rfl | (simp; done) | (simp only [← hji4] <;> (first | rfl | simp)) | (simp [*]; done), by repeat (first | exact Drawn0.refl _ | apply Drawn0.step)⟩
      · rw [if_neg c6] at H
        exact absurd H (by simp)
    · rw [if_neg c5] at H
      exact absurd H (by simp)
end
/-- A row of short texts. -/
def PK (A : Option Addr) (n : Nat) (w : World) : Prop := ∃ l : List ByteArray, l.length = n ∧ 0 < n ∧ Kd.C Kd.string w A n l ∧ ∀ s ∈ l, s.size ≤ 100
theorem PK.below {A : Option Addr} {n : Nat} {w w1 : World} (h : PK A n w) (hb : Below w.heap.size w w1) : PK A n w1 := by
  obtain ⟨l, h1, h2, h3, h4⟩ := h
  exact ⟨l, h1, h2, Kd.C_below h3 hb, h4⟩
def shortB : Value → Bool
  | .string s => decide (s.size ≤ 100)
  | _ => false
def textOf : Value → ByteArray
  | .string s => s
  | _ => ⟨#[]⟩
theorem shorts : ∀ (l : List Value), l.all shortB = true → l = (l.map textOf).map Value.string ∧ ∀ s ∈ l.map textOf, s.size ≤ 100
  | [], _ => ⟨rfl, fun s h => by simp at h⟩
  | v :: l, h => by
    rw [List.all_cons, Bool.and_eq_true] at h
    obtain ⟨h1, h2⟩ := shorts l h.2
    cases v <;> simp only [shortB, Bool.false_eq_true, false_and, decide_eq_true_eq] at h
    refine ⟨?_, fun s hs => ?_⟩
    · rw [List.map_cons, List.map_cons, ← h1]
      rfl
    · rw [List.map_cons] at hs
      rcases List.mem_cons.1 hs with rfl | hs
      · exact h.1
      · exact h2 s hs
theorem pk_new (W : World) (cs : Array Value) (n : Nat) (hn : cs.size = n) (h0 : 0 < n) (hm : n ≤ 100) (hc : cs.toList.all shortB = true) : PK (some ⟨W.heap.size, 0, none⟩) n (W.alloc (.cells cs 9)) := by
  obtain ⟨h1, h2⟩ := shorts cs.toList hc
  have hl : (cs.toList.map textOf).length = n := by rw [List.length_map, Array.length_toList]; exact hn
  refine ⟨cs.toList.map textOf, hl, h0, ⟨hl, by omega, fun _ => ⟨_, rfl, fun j p hj => ⟨[.string p], rfl, rfl, fun i u hu => ?_⟩⟩⟩, h2⟩
  cases i with
  | succ i => simp at hu
  | zero =>
    simp only [List.getElem?_cons_zero, Option.some.injEq] at hu
    subst hu
    have hb : (W.alloc (.cells cs 9)).heap[W.heap.size]? = some (.cells cs 9 (0, 0)) := blk_new W _
    have h5 := blk_cell hb j
    have h6 : cs[j]? = some (.string p) := by
      have h7 : cs.toList[j]? = some (.string p) := by rw [h1, List.getElem?_map, hj]; rfl
      rwa [Array.getElem?_toList] at h7
    rw [h6] at h5
    have e : (⟨W.heap.size, 0, none⟩ : Addr).add (j * 1 + 0) = ⟨W.heap.size, j, none⟩ := by
      simp [Addr.add]
      exact fun h => h.symm
    show (W.alloc (.cells cs 9)).cell? ((⟨W.heap.size, 0, none⟩ : Addr).add (j * 1 + 0)) = _
    rw [e]
    exact h5
section
variable {P : Program} {ops : Array Oper} {rest : List Oper} {o : Oper} {a : Act} {Q : Exit → Act → World → Prop} {Kc : Act → World → Prop}
theorem lit_event {W : World} (hgd : o.guard = none) {N : Tmp} (_hd : o.dst = some N) {cs : Array Value} {n : Nat}
    (hrun : (execOp a.eval o).run P W = .ok (.value (.slice (some ⟨W.heap.size, 0, none⟩) n n)) (W.alloc (.cells cs 9)))
    (hn : cs.size = n) (h0 : 0 < n) (hm : n ≤ 100) (hc : cs.toList.all shortB = true)
    (h : ∀ A w1, PK A n w1 → Below W.heap.size W w1 → wpList P ops Q rest (a.put o.dst (.slice A n n)) w1) : wpList P ops Q (o :: rest) a W :=
  Kd.event_run hgd hrun (h _ _ (pk_new W cs n hn h0 hm hc) (below_alloc (Below.refl _ _) _))
theorem lit_step {W : World} (hw : Region.wanted o (yielded ops a.tmps) = true) {N : Tmp} (_hd : o.dst = some N) {cs : Array Value} {n : Nat}
    (hrun : (execOp a.eval o).run P W = .ok (.value (.slice (some ⟨W.heap.size, 0, none⟩) n n)) (W.alloc (.cells cs 9)))
    (hn : cs.size = n) (h0 : 0 < n) (hm : n ≤ 100) (hc : cs.toList.all shortB = true)
    (h : ∀ A w1, PK A n w1 → Below W.heap.size W w1 → Kc (a.put o.dst (.slice A n n)) w1) : if Region.wanted o (yielded ops a.tmps) = true then Oper.wp P o a W Kc Q else Kc (a.put o.dst undef) W :=
  event_step hw hrun (h _ _ (pk_new W cs n hn h0 hm hc) (below_alloc (Below.refl _ _) _))
end
theorem pick_c (b : Int) {A : Option Addr} {n : Nat} {W : World} (h : PK A n W) (h0 : 0 ≤ b) (h1 : b ≤ 255) : Calls Tryz.prog 66 #[.int .u8 b, .slice A n n] W fun e w' => ∃ r : ByteArray, e = .returned (.string r) ∧ r.size ≤ 100 ∧ Below W.heap.size W w' := by
  obtain ⟨l, rfl, hl, hC, hs⟩ := h
  have hw : wrap64 b = b := Go.IntWalk.wrap64_in _ (by omega)
  have ht0 : 0 ≤ Int.tmod b (l.length : Int) := Int.tmod_nonneg _ h0
  have ht1 : Int.tmod b (l.length : Int) < (l.length : Int) := Int.tmod_lt_of_pos _ (by omega)
  have hf : broadsheetlaw15_pick.f b l = some (rdOf ByteArray.empty l (Int.tmod b (l.length : Int))) := by
    unfold broadsheetlaw15_pick.f
    rw [if_neg (by omega), hw, if_pos ht0, if_pos ht1]
  refine (broadsheetlaw15_pick.calls b A l.length l _ W hC (Nat.le_refl _) hf).mono ?_
  rintro e w' ⟨rfl, hd⟩
  refine ⟨_, rfl, hs _ ?_, hd.below⟩
  generalize Int.tmod b (l.length : Int) = i at ht0 ht1
  show l.getD i.toNat ByteArray.empty ∈ l
  rw [List.getD_eq_getElem?_getD, List.getElem?_eq_getElem (show i.toNat < l.length by omega)]
  exact List.getElem_mem _
/-- A node of short parts, of at most m kids and attributes. -/
structure KSm (m : Nat) (x : S25) : Prop where
  s1 : x.f1.size ≤ 100
  s2 : x.f2.size ≤ 100
  s5 : x.f5.size ≤ 100
  n3 : x.f3.length ≤ m
  n4 : x.f4.length ≤ m
  at3 : ∀ a ∈ x.f3, a.f0.size ≤ 100 ∧ a.f1.size ≤ 100 ∧ a.f2.size ≤ 100
  kd4 : ∀ y ∈ x.f4, Sm y
theorem KSm.sm {m : Nat} {x : S25} (h : KSm m x) (hm : m ≤ 3000) : Sm x := by
  refine Sm.mk x ?_ ?_ ?_ ?_ ?_ (fun a ha => ?_) h.kd4
  · have := h.s1; omega
  · have := h.s2; omega
  · have := h.s5; omega
  · have := h.n3; omega
  · have := h.n4; omega
  · have := h.at3 a ha; omega
theorem KSm.le {m m' : Nat} {x : S25} (h : KSm m x) (hm : m ≤ m') : KSm m' x := ⟨h.s1, h.s2, h.s5, Nat.le_trans h.n3 hm, Nat.le_trans h.n4 hm, h.at3, h.kd4⟩
/-- What El makes. -/
def MadeE (lo : Nat) (W : World) (x : S25) (v3 v4 : Value) : Prop := Kd.N k41 41 W lo (fun k => lo ≤ k) v3 x.f3 ∧ Kd.N k25 25 W lo (fun k => lo ≤ k ∧ some k ≠ v3.ownBlock) v4 x.f4
theorem MadeE.below {lo : Nat} {W W1 : World} {x : S25} {v3 v4 : Value} (h : MadeE lo W x v3 v4) (hb : Below W.heap.size W W1) : MadeE lo W1 x v3 v4 := ⟨Kd.N_below h.1 hb, Kd.N_below h.2 hb⟩
theorem MadeE.fk {lo : Nat} {W : World} {x : S25} {v3 v4 : Value} (h : MadeE lo W x v3 v4) : Kd.FK k25 W (fun k => lo ≤ k) x [.int .i64 x.f0, .string x.f1, .string x.f2, v3, v4, .string x.f5] := by
  obtain ⟨A3, c3, rfl⟩ := Kd.N_slice h.1
  obtain ⟨A4, c4, rfl⟩ := Kd.N_slice h.2
  exact k25_mkF W _ x (Kd.N_reads' h.1).2.1 (Kd.N_F h.1) (Kd.N_reads' h.2).2.1 (Kd.F_mono (Kd.N_F h.2) (fun _ hk => hk.1))
/-- kid under way: its parameter (g1), its result (g2), its node (g4). -/
structure KI (w W : World) (g1 g2 g4 : Nat) (a b c : Int) (m : Nat) (x : S25) (v3 v4 : Value) : Prop where
  bw : Below w.heap.size w W
  b1 : W.heap[g1]? = some (.cells #[.int .u8 a, .int .u8 b, .int .u8 c] 36 (0, 0))
  b2 : W.heap[g2]? = some (.cells #[.int .i64 0, .string ⟨#[]⟩, .string ⟨#[]⟩, .slice none 0 0, .slice none 0 0, .string ⟨#[]⟩] 25 (0, 0))
  b4 : W.heap[g4]? = some (.cells #[.int .i64 x.f0, .string x.f1, .string x.f2, v3, v4, .string x.f5] 25 (0, 0))
  o1 : w.heap.size ≤ g1
  o2 : g1 < g2
  o4 : g2 < g4
  r3 : Kd.N k41 41 W w.heap.size (fun k => w.heap.size ≤ k ∧ k ≠ g1 ∧ k ≠ g2 ∧ k ≠ g4) v3 x.f3
  r4 : Kd.N k25 25 W w.heap.size (fun k => (w.heap.size ≤ k ∧ k ≠ g1 ∧ k ≠ g2 ∧ k ≠ g4) ∧ some k ≠ v3.ownBlock) v4 x.f4
  sm : KSm m x
section
variable {w W W1 : World} {g1 g2 g4 : Nat} {a b c : Int} {m : Nat} {x : S25} {v3 v4 : Value}
theorem KI.step (h : KI w W g1 g2 g4 a b c m x v3 v4) (hb : Below W.heap.size W W1) : KI w W1 g1 g2 g4 a b c m x v3 v4 :=
  ⟨h.bw.trans (hb.mono h.bw.size), blk_below h.b1 hb, blk_below h.b2 hb, blk_below h.b4 hb, h.o1, h.o2, h.o4, Kd.N_below h.r3 hb, Kd.N_below h.r4 hb, h.sm⟩
theorem KI.bit (h : KI w W g1 g2 g4 a b c m x v3 v4) : W.cell? ⟨g1, 1, none⟩ = some (.int .u8 b) ∧ W.cell? ⟨g1, 2, none⟩ = some (.int .u8 c) := ⟨(blk_cell h.b1 1).trans rfl, (blk_cell h.b1 2).trans rfl⟩
theorem KI.c3 (h : KI w W g1 g2 g4 a b c m x v3 v4) : W.cell? ⟨g4, 3, none⟩ = some v3 ∧ W.frozen? ⟨g4, 3, none⟩ = false := ⟨(blk_cell h.b4 3).trans rfl, blk_frozen h.b4 3⟩
theorem KI.c4 (h : KI w W g1 g2 g4 a b c m x v3 v4) : W.cell? ⟨g4, 4, none⟩ = some v4 ∧ W.frozen? ⟨g4, 4, none⟩ = false := ⟨(blk_cell h.b4 4).trans rfl, blk_frozen h.b4 4⟩
theorem KI.size (h : KI w W g1 g2 g4 a b c m x v3 v4) : w.heap.size ≤ W.heap.size := h.bw.size
/-- A block that is new is none of those known. -/
theorem KI.fresh (h : KI w W g1 g2 g4 a b c m x v3 v4) : ∀ k, W.heap.size ≤ k → ((w.heap.size ≤ k ∧ k ≠ g1 ∧ k ≠ g2 ∧ k ≠ g4) ∧ some k ≠ v3.ownBlock) ∧ some k ≠ v4.ownBlock := by
  intro k hk
  have h1 := blk_lt h.b1
  have h2 := blk_lt h.b2
  have h4 := blk_lt h.b4
  have h0 := h.bw.size
  refine ⟨⟨⟨by omega, by omega, by omega, by omega⟩, fun e => ?_⟩, fun e => ?_⟩
  · have := Kd.N_lt h.r3 k e.symm; omega
  · have := Kd.N_lt h.r4 k e.symm; omega
/-- The kids' row has been written over, or made longer: ahead of the store, and behind it. -/
theorem KI.put4 {v : Value} {l : List S25} {m' : Nat} (h : KI w W g1 g2 g4 a b c m x v3 v4) (hn : Kd.N k25 25 W1 w.heap.size (fun k => (w.heap.size ≤ k ∧ k ≠ g1 ∧ k ≠ g2 ∧ k ≠ g4) ∧ some k ≠ v3.ownBlock) v l) (hb : Below w.heap.size w W1) (hm : ∀ k, k < W.heap.size → some k ≠ v4.ownBlock → W1.heap[k]? = W.heap[k]?)
    (hs : KSm m' ⟨x.f0, x.f1, x.f2, x.f3, l, x.f5⟩) : (W1.cell? ⟨g4, 4, none⟩ = some v4 ∧ W1.frozen? ⟨g4, 4, none⟩ = false) ∧ KI w (W1.setCell ⟨g4, 4, none⟩ v) g1 g2 g4 a b c m' ⟨x.f0, x.f1, x.f2, x.f3, l, x.f5⟩ v3 v := by
  have hne : ∀ k, (k = g1 ∨ k = g2 ∨ k = g4) → some k ≠ v4.ownBlock := fun k hk e => by
    have h1 := h.r4.1 k e.symm
    rcases hk with rfl | rfl | rfl
    · exact h1.1.2.1 rfl
    · exact h1.1.2.2.1 rfl
    · exact h1.1.2.2.2 rfl
  have q1 := (hm g1 (blk_lt h.b1) (hne _ (.inl rfl))).trans h.b1
  have q2 := (hm g2 (blk_lt h.b2) (hne _ (.inr (.inl rfl)))).trans h.b2
  have q4 := (hm g4 (blk_lt h.b4) (hne _ (.inr (.inr rfl)))).trans h.b4
  have o1 := h.o1
  have o2 := h.o2
  have o4 := h.o4
  have r3' : Kd.N k41 41 W1 w.heap.size (fun k => w.heap.size ≤ k ∧ k ≠ g1 ∧ k ≠ g2 ∧ k ≠ g4) v3 x.f3 := by
    have h3 := Kd.N_bound h.r3
    refine ⟨h.r3.1, ?_⟩
    obtain ⟨_, rows, e1, e2, e3⟩ := h.r3
    refine ⟨rows, e1, ?_, fun j y cs hy hc => ?_⟩
    · refine Kd.R_step e2 (fun k hk hlt => hm k hlt (fun e => ?_))
      exact (h.r4.1 k e.symm).2 hk
    · refine Kd.FK_of_M (base := 0) ?_
      have hk := e3 j y cs hy hc
      have := Kd.FK_now hk
      obtain rfl := k41_open this
      exact k41_mkM _ _ _ y
  refine ⟨⟨(blk_cell q4 4).trans rfl, blk_frozen q4 4⟩, below_set hb (by omega), blk_far q1 (by show g1 ≠ g4; omega) _, blk_far q2 (by show g2 ≠ g4; omega) _, blk_put q4 4 v rfl, o1, o2, o4, Kd.N_far r3' (fun k hk => hk.2.2.2) _, Kd.N_far hn (fun k hk => hk.1.2.2.2) _, hs⟩
/-- The attributes' row, likewise. -/
theorem KI.put3 {v : Value} {l : List S41} {m' : Nat} (h : KI w W g1 g2 g4 a b c m x v3 v4) (hn : Kd.N k41 41 W1 w.heap.size (fun k => w.heap.size ≤ k ∧ k ≠ g1 ∧ k ≠ g2 ∧ k ≠ g4) v l) (hb : Below w.heap.size w W1) (hm : ∀ k, k < W.heap.size → some k ≠ v3.ownBlock → W1.heap[k]? = W.heap[k]?) (hv : v.ownBlock = v3.ownBlock ∨ ∃ b, v.ownBlock = some b ∧ W.heap.size ≤ b)
    (hs : KSm m' ⟨x.f0, x.f1, x.f2, l, x.f4, x.f5⟩) : (W1.cell? ⟨g4, 3, none⟩ = some v3 ∧ W1.frozen? ⟨g4, 3, none⟩ = false) ∧ KI w (W1.setCell ⟨g4, 3, none⟩ v) g1 g2 g4 a b c m' ⟨x.f0, x.f1, x.f2, l, x.f4, x.f5⟩ v v4 := by
  have hne : ∀ k, (k = g1 ∨ k = g2 ∨ k = g4) → some k ≠ v3.ownBlock := fun k hk e => by
    have h1 := h.r3.1 k e.symm
    rcases hk with rfl | rfl | rfl
    · exact h1.2.1 rfl
    · exact h1.2.2.1 rfl
    · exact h1.2.2.2 rfl
  have q1 := (hm g1 (blk_lt h.b1) (hne _ (.inl rfl))).trans h.b1
  have q2 := (hm g2 (blk_lt h.b2) (hne _ (.inr (.inl rfl)))).trans h.b2
  have q4 := (hm g4 (blk_lt h.b4) (hne _ (.inr (.inr rfl)))).trans h.b4
  have o1 := h.o1
  have o2 := h.o2
  have o4 := h.o4
  have r4' : Kd.N k25 25 W1 w.heap.size (fun k => (w.heap.size ≤ k ∧ k ≠ g1 ∧ k ≠ g2 ∧ k ≠ g4) ∧ some k ≠ v.ownBlock) v4 x.f4 := by
    refine Kd.N_mono (Kd.N_step (Kd.N_bound h.r4) (fun k hk hlt => hm k hlt hk.1.2)) (fun k hk => ⟨hk.1.1, fun e => ?_⟩)
    rcases hv with hv | ⟨b, hv, hle⟩
    · rw [hv] at e; exact hk.1.2 e
    · rw [hv] at e; injection e with e; have := hk.2; omega
  refine ⟨⟨(blk_cell q4 3).trans rfl, blk_frozen q4 3⟩, below_set hb (by omega), blk_far q1 (by show g1 ≠ g4; omega) _, blk_far q2 (by show g2 ≠ g4; omega) _, blk_put q4 3 v rfl, o1, o2, o4, Kd.N_far hn (fun k hk => hk.2.2.2) _, Kd.N_far r4' (fun k hk => hk.1.2.2.2) _, hs⟩
end
theorem KSm.put4 {m : Nat} {x : S25} (h : KSm m x) (l : List S25) (m' : Nat) (hm : m ≤ m') (hl : l.length ≤ m') (hk : ∀ y ∈ l, Sm y) : KSm m' ⟨x.f0, x.f1, x.f2, x.f3, l, x.f5⟩ := ⟨h.s1, h.s2, h.s5, Nat.le_trans h.n3 hm, hl, h.at3, hk⟩
theorem KSm.put3 {m : Nat} {x : S25} (h : KSm m x) (l : List S41) (m' : Nat) (hm : m ≤ m') (hl : l.length ≤ m') (hk : ∀ a ∈ l, a.f0.size ≤ 100 ∧ a.f1.size ≤ 100 ∧ a.f2.size ≤ 100) : KSm m' ⟨x.f0, x.f1, x.f2, l, x.f4, x.f5⟩ := ⟨h.s1, h.s2, h.s5, hl, Nat.le_trans h.n4 hm, hk, h.kd4⟩
end Go.Proofs.YtcplaafmelcndaaGreatDoor.At
end
section
/- A map of variants, as atom.variants fills it. -/
set_option linter.unusedVariables false
set_option linter.unusedSimpArgs false
set_option maxRecDepth 20000
namespace Go.Proofs.YtcplaafmelcndaaGreatDoor.At
open Go.RowKit Go.ChangeMaps Go.WideMaps Go.WideElems
theorem laidOutA : laidOutB Tryz.prog = true := by kernel_rfl
theorem row80 : (80 : TypeId) < Tryz.prog.types.size := of_decide_eq_true (by kernel_rfl)
theorem wide80 : (match Tryz.prog.underlying 80 with | some (.array _ _) | some (.struct _) => true | _ => false) = true := by rw [Tryz.underlying80]
theorem law80 : KeyLaw Tryz.prog 80 := deep_law_laid laidOutA (m := 2) (by omega) row80 (by kernel_rfl) wide80
theorem keyType80 : Tryz.prog.keyType 80 = true := by kernel_rfl
theorem cells80 : Tryz.prog.cellsOf 80 = 4 := by kernel_rfl
theorem size80 : Tryz.prog.types.size = 178 + 1 := by kernel_rfl
theorem key80 (a b : ByteArray) (x y : Bool) (ha : a.size ≤ 9000000) (hb : b.size ≤ 9000000) : ∃ l, keyOf Tryz.prog 80 (.agg #[.string a, .string b, .bool x, .bool y]) = some l := by
  have hf : (Value.agg #[Value.string a, Value.string b, Value.bool x, Value.bool y]).formed Tryz.prog 80 = true := by simp [Value.formed, Tryz.underlying80, cells80]
  unfold keyOf
  rw [Tryz.underlying80]
  simp only [keyType80, hf, Bool.and_self, if_true]
  have : ∃ ls, Tryz.prog.keyLits (Tryz.prog.types.size + 1) 80 [.string a, .string b, .bool x, .bool y] = some ls := by
    rw [show Tryz.prog.types.size + 1 = 178 + 2 by rw [size80]]
    generalize 178 = m
    have c9 : Tryz.prog.cellsOf 9 = 1 := by kernel_rfl
    have c4 : Tryz.prog.cellsOf 4 = 1 := by kernel_rfl
    have h9 : ∀ s : ByteArray, s.size ≤ 9000000 → Tryz.prog.keyLits (m + 1) 9 [.string s] = some [.string s.data.toList] := fun s hs => by
      simp only [Program.keyLits, Tryz.underlying9]
      rw [if_pos (by unfold maxLen; omega)]
    have h4 : ∀ t : Bool, Tryz.prog.keyLits (m + 1) 4 [.bool t] = some [.bool t] := fun t => by simp only [Program.keyLits, Tryz.underlying4]
    simp [Program.keyLits, Tryz.underlying80, cells80, c9, c4]
    rw [if_pos (show a.size ≤ maxLen by unfold maxLen; omega), if_pos (show b.size ≤ maxLen by unfold maxLen; omega)]
    exact ⟨_, rfl⟩
  obtain ⟨ls, hls⟩ := this
  exact ⟨_, by show Option.map _ (Tryz.prog.keyLits _ 80 [.string a, .string b, .bool x, .bool y]) = _; rw [hls]; rfl⟩
theorem sb_same {w : World} {b : Nat} {o : Obj} (h : w.heap[b]? = some o) (o' : Obj) : (setBlock w b o').heap[b]? = some o' := by
  have hl : b < w.heap.size := (Array.getElem?_eq_some_iff.1 h).1
  simp [setBlock, hl]
theorem sb_other {w : World} {b i : Nat} (o : Obj) (_u : Unit) (h : i ≠ b) : (setBlock w b o).heap[i]? = w.heap[i]? := by
  simp [setBlock, Ne.symm h]
/-- What stands at a key. -/
def LookN (b : Nat) (key : Value) (n : Int) (w : World) : Prop := (Instr.lookup 78 (.map (some b)) key false).run Tryz.prog w = .ok (.int .i64 n) w
def IsK (key : Value) : Prop := ∃ l, keyOf Tryz.prog 80 key = some l
theorem zero3 (w : World) : (zeroValue 3).run Tryz.prog w = .ok (.int .i64 0) w := Tryz.zeroValue3 w
theorem look_of {w : World} {b : Nat} {es : Array MapEntry} {clock : Nat} {key : Value} {n : Int} (hb : w.heap[b]? = some (.map es clock)) (hk : ∀ e ∈ es.toList, IsK e.key) (hkey : IsK key)
    (h : ((∀ e ∈ es.toList, e.key ≠ key) ∧ n = 0) ∨ ((∃ e ∈ es.toList, e.key = key) ∧ ∀ e ∈ es.toList, e.key = key → e.val = .int .i64 n)) : LookN b key n w := by
  obtain ⟨l, hl⟩ := hkey
  unfold LookN
  rcases law80.find w hl es.toList hk with ⟨h1, h2⟩ | ⟨j, e, h1, h2, h3⟩
  · have hn : n = 0 := by
      rcases h with h | ⟨⟨e, he, hek⟩, _⟩
      · exact h.2
      · exact absurd hek (h2 e he)
    subst hn
    simp [Instr.lookup, run_underlying Tryz.underlying78, MapKept.run_getObj_map hb, law80.check w _ hl, h1, zero3, Result.andThen]
  · have hv : e.val = .int .i64 n := by
      have hm := List.mem_of_getElem? h2
      rcases h with h | ⟨_, h⟩
      · exact absurd h3 (h.1 e hm)
      · exact h e hm h3
    simp [Instr.lookup, run_underlying Tryz.underlying78, MapKept.run_getObj_map hb, law80.check w _ hl, h1, hv, Result.andThen]
/-- The map has each of these keys, with the number 1. -/
def HadM (b : Nat) (ks : List Value) (w : World) : Prop :=
  ∃ es clock, w.heap[b]? = some (.map es clock) ∧ es.toList.map (·.key) = ks ∧ (∀ e ∈ es.toList, e.val = .int .i64 1) ∧ (es.toList.map (·.born)).Nodup ∧ (∀ e ∈ es.toList, e.born < clock) ∧ (∀ k ∈ ks, IsK k) ∧ ks.Nodup
theorem hadM_new (w : World) : HadM w.heap.size [] (w.alloc (.map #[] 0)) :=
  ⟨#[], 0, heap_alloc_new _ _, rfl, fun e he => by simp at he, by simp, fun e he => by simp at he, fun k hk => by simp at hk, List.nodup_nil⟩
theorem HadM.keep {b : Nat} {ks : List Value} {w w' : World} (h : HadM b ks w) (hk : w'.heap[b]? = w.heap[b]?) : HadM b ks w' := by
  obtain ⟨es, clock, hb, rest⟩ := h
  exact ⟨es, clock, hk.trans hb, rest⟩
theorem HadM.lt {b : Nat} {ks : List Value} {w : World} (h : HadM b ks w) : b < w.heap.size := by
  obtain ⟨es, clock, hb, rest⟩ := h
  exact (Array.getElem?_eq_some_iff.1 hb).1
theorem had_keys {es : Array MapEntry} {ks : List Value} (h2 : es.toList.map (·.key) = ks) (hv : ∀ k ∈ ks, IsK k) : ∀ e ∈ es.toList, IsK e.key :=
  fun e he => hv _ (by rw [← h2]; exact List.mem_map.2 ⟨e, he, rfl⟩)
/-- A key that is new: nought stands there, also behind the entry; behind the store, one. -/
theorem had_new {b : Nat} {ks : List Value} {w : World} {key : Value} (h : HadM b ks w) (hkey : IsK key) (hn : key ∉ ks) :
    LookN b key 0 w ∧ ∃ st o1, (Instr.mapEntry 78 (.map (some b)) key).run Tryz.prog w = .ok (.tuple #[.int .i64 0, .int .i64 st]) (setBlock w b o1) ∧ (∀ w1 : World, w1.heap[b]? = some o1 → LookN b key 0 w1) ∧
      ∀ w2 : World, w2.heap[b]? = some o1 → ∃ o2, (Instr.entryStore 78 (.map (some b)) (.int .i64 st) (.int .i64 1)).run Tryz.prog w2 = .ok () (setBlock w2 b o2) ∧ ∀ w3 : World, w3.heap[b]? = some o2 → HadM b (ks ++ [key]) w3 ∧ LookN b key 1 w3 := by
  obtain ⟨es, clock, hb, h2, h3, h4, h5, h6, h10⟩ := h
  have hks := had_keys h2 h6
  have hmiss : ∀ e ∈ es.toList, e.key ≠ key := fun e he hek => hn (by rw [← h2, ← hek]; exact List.mem_map.2 ⟨e, he, rfl⟩)
  refine ⟨look_of hb hks hkey (.inl ⟨hmiss, rfl⟩), (clock : Int), .map (es.push ⟨key, .int .i64 0, clock⟩) (clock + 1), ?_, fun w1 hw1 => look_of hw1 ?_ hkey (.inr ⟨⟨⟨key, .int .i64 0, clock⟩, by simp, rfl⟩, ?_⟩), fun w2 hw2 => ⟨.map (es.push ⟨key, .int .i64 1, clock⟩) (clock + 1), ?_, fun w3 hw3 => ⟨⟨_, _, hw3, ?_, ?_, ?_, ?_, ?_, ?_⟩, look_of hw3 ?_ hkey (.inr ⟨⟨⟨key, .int .i64 1, clock⟩, by simp, rfl⟩, ?_⟩)⟩⟩⟩
  · obtain ⟨l, hl⟩ := hkey
    rcases law80.find w hl es.toList hks with ⟨h1, _⟩ | ⟨j, e, _, h8, h9⟩
    · simp [Instr.mapEntry, run_underlying Tryz.underlying78, MapKept.run_getObj_map hb, law80.check w false hl, h1, zero3, MapKept.run_setObj_map _ hb, Result.andThen, setBlock, goInt]
    · exact absurd h9 (hmiss e (List.mem_of_getElem? h8))
  · intro e he
    rw [Array.toList_push] at he
    rcases List.mem_append.1 he with he | he
    · exact hks e he
    · simp at he; subst he; exact hkey
  · intro e he hek
    rw [Array.toList_push] at he
    rcases List.mem_append.1 he with he | he
    · exact absurd hek (hmiss e he)
    · simp at he; subst he; rfl
  · have hidx : (es.push ⟨key, .int .i64 0, clock⟩).findIdx? (fun e => ((e.born : Nat) : Int) == ((clock : Nat) : Int)) = some es.size := by
      rw [findIdx_arr]
      exact findIdx_born (l := (es.push ⟨key, .int .i64 0, clock⟩).toList) (j := es.size) (e0 := ⟨key, .int .i64 0, clock⟩) (by
        simp only [Array.toList_push, List.map_append, List.map_cons, List.map_nil]
        refine List.nodup_append.2 ⟨h4, by simp, fun a ha c hc e1 => ?_⟩
        simp only [List.mem_singleton] at hc
        obtain ⟨x, hx, rfl⟩ := List.mem_map.1 ha
        have := h5 x hx
        omega) (by simp)
    have hmod : (es.push ⟨key, .int .i64 0, clock⟩).modify es.size (fun e => { e with val := .int .i64 1 }) = es.push ⟨key, .int .i64 1, clock⟩ := by
      apply Array.ext'
      rw [Array.toList_modify, Array.toList_push, Array.toList_push, ← Array.length_toList, modify_last]
    simp [Instr.entryStore, MapKept.run_getObj_map hw2, asInt, asIntOf, hidx, hmod, MapKept.run_setObj_map _ hw2, Result.andThen, setBlock]
  · rw [Array.toList_push, List.map_append, h2]; rfl
  · intro e he
    rw [Array.toList_push] at he
    rcases List.mem_append.1 he with he | he
    · exact h3 e he
    · simp at he; subst he; rfl
  · rw [Array.toList_push, List.map_append]
    refine List.nodup_append.2 ⟨h4, by simp, fun a ha c hc e1 => ?_⟩
    simp only [List.map_cons, List.map_nil, List.mem_singleton] at hc
    obtain ⟨x, hx, rfl⟩ := List.mem_map.1 ha
    have := h5 x hx
    omega
  · intro e he
    rw [Array.toList_push] at he
    rcases List.mem_append.1 he with he | he
    · have := h5 e he; omega
    · simp at he; subst he; simp
  · intro k hk
    rcases List.mem_append.1 hk with hk | hk
    · exact h6 k hk
    · simp at hk; subst hk; exact hkey
  · exact List.nodup_append.2 ⟨h10, by simp, fun a ha c hc e1 => by simp at hc; subst hc; subst e1; exact hn ha⟩
  · intro e he
    rw [Array.toList_push] at he
    rcases List.mem_append.1 he with he | he
    · exact hks e he
    · simp at he; subst he; exact hkey
  · intro e he hek
    rw [Array.toList_push] at he
    rcases List.mem_append.1 he with he | he
    · exact absurd hek (hmiss e he)
    · simp at he; subst he; rfl
/-- A key that is there: one stands there; behind the store, two. -/
theorem had_old {b : Nat} {ks : List Value} {w : World} {key : Value} (h : HadM b ks w) (hkey : IsK key) (hn : key ∈ ks) :
    LookN b key 1 w ∧ ∃ st o1, (Instr.mapEntry 78 (.map (some b)) key).run Tryz.prog w = .ok (.tuple #[.int .i64 1, .int .i64 st]) (setBlock w b o1) ∧ (∀ w1 : World, w1.heap[b]? = some o1 → LookN b key 1 w1) ∧
      ∀ w2 : World, w2.heap[b]? = some o1 → ∃ o2, (Instr.entryStore 78 (.map (some b)) (.int .i64 st) (.int .i64 2)).run Tryz.prog w2 = .ok () (setBlock w2 b o2) ∧ ∀ w3 : World, w3.heap[b]? = some o2 → LookN b key 2 w3 := by
  obtain ⟨es, clock, hb, h2, h3, h4, h5, h6, h10⟩ := h
  have hks := had_keys h2 h6
  obtain ⟨e1, he1, hek1⟩ : ∃ e ∈ es.toList, e.key = key := by rw [← h2] at hn; obtain ⟨e, he, hk⟩ := List.mem_map.1 hn; exact ⟨e, he, hk⟩
  obtain ⟨l, hl⟩ := hkey
  rcases law80.find w hl es.toList hks with ⟨_, h8⟩ | ⟨j, e0, h7, h8, h9⟩
  · exact absurd hek1 (h8 e1 he1)
  have hj : es[j]? = some e0 := by simpa using h8
  have hsame : es.modify j (fun e => { e with key := key }) = es := by
    apply Array.ext'
    rw [Array.toList_modify, modify_eq_set _ _ _ _ h8]
    have : ({ e0 with key := key } : MapEntry) = e0 := by rw [← h9]
    rw [this]
    exact set_self _ _ _ h8
  have hv0 : e0.val = .int .i64 1 := h3 e0 (List.mem_of_getElem? h8)
  refine ⟨look_of hb hks ⟨l, hl⟩ (.inr ⟨⟨e1, he1, hek1⟩, fun e he _ => h3 e he⟩), (e0.born : Int), .map es clock, ?_, fun w1 hw1 => look_of hw1 hks ⟨l, hl⟩ (.inr ⟨⟨e1, he1, hek1⟩, fun e he _ => h3 e he⟩), fun w2 hw2 => ⟨.map (es.modify j (fun e => { e with val := .int .i64 2 })) clock, ?_, fun w3 hw3 => ?_⟩⟩
  · simp [Instr.mapEntry, run_underlying Tryz.underlying78, MapKept.run_getObj_map hb, law80.check w false hl, h7, hj, h9, hv0, law80.stays w hl, hsame, MapKept.run_setObj_map _ hb, Result.andThen, setBlock, goInt]
  · have hidx : es.findIdx? (fun e => ((e.born : Nat) : Int) == ((e0.born : Nat) : Int)) = some j := by
      rw [findIdx_arr]
      exact findIdx_born h4 h8
    simp [Instr.entryStore, MapKept.run_getObj_map hw2, asInt, asIntOf, hidx, MapKept.run_setObj_map _ hw2, Result.andThen, setBlock]
  · have hset : (es.modify j (fun e => { e with val := .int .i64 2 })).toList = es.toList.set j { e0 with val := .int .i64 2 } := by rw [Array.toList_modify, modify_eq_set _ _ _ _ h8]
    obtain ⟨l2, hl2⟩ : ∃ l, keyOf Tryz.prog 80 key = some l := ⟨l, hl⟩
    have hks2 : ∀ e ∈ (es.modify j (fun e => { e with val := .int .i64 2 })).toList, ∃ l, keyOf Tryz.prog 80 e.key = some l := by
      intro e he
      rw [hset] at he
      rcases List.mem_or_eq_of_mem_set he with he | rfl
      · exact hks e he
      · exact ⟨l, by show keyOf _ _ e0.key = _; rw [h9]; exact hl⟩
    unfold LookN
    have hfst : ∀ (j' : Nat) (e' : MapEntry), (es.modify j (fun e => { e with val := Value.int .i64 2 })).toList[j']? = some e' → e'.key = key → e'.val = Value.int .i64 2 := by
      intro j' e' h11 h12
      rw [hset] at h11
      have hjl : j < es.toList.length := (List.getElem?_eq_some_iff.1 h8).1
      by_cases hjj : j = j'
      · subst hjj
        rw [List.getElem?_set_self hjl] at h11
        obtain rfl := Option.some.inj h11
        rfl
      · rw [List.getElem?_set_ne hjj] at h11
        exfalso
        have hl' : j' < es.toList.length := (List.getElem?_eq_some_iff.1 h11).1
        have hnd : (es.toList.map (·.key)).Nodup := by rw [h2]; exact h10
        have a1 : (es.toList.map (·.key))[j]'(by simpa using hjl) = key := by rw [List.getElem_map]; rw [(List.getElem?_eq_some_iff.1 h8).2]; exact h9
        have a2 : (es.toList.map (·.key))[j']'(by simpa using hl') = key := by rw [List.getElem_map]; rw [(List.getElem?_eq_some_iff.1 h11).2]; exact h12
        have hp := List.pairwise_iff_getElem.1 hnd
        rcases Nat.lt_or_gt_of_ne hjj with hlt | hlt
        · exact hp j j' (by simpa using hjl) (by simpa using hl') hlt (a1.trans a2.symm)
        · exact hp j' j (by simpa using hl') (by simpa using hjl) hlt (a2.trans a1.symm)
    have hin : ∃ e ∈ (es.modify j (fun e => { e with val := Value.int .i64 2 })).toList, e.key = key := ⟨{ e0 with val := Value.int .i64 2 }, by rw [hset]; exact List.mem_iff_getElem?.2 ⟨j, by rw [List.getElem?_set_self (by exact (List.getElem?_eq_some_iff.1 h8).1)]⟩, h9⟩
    generalize (es.modify j (fun e => { e with val := Value.int .i64 2 })) = es2 at hw3 hset hks2 hfst hin
    rcases law80.find w3 hl2 _ hks2 with ⟨_, h12⟩ | ⟨j', e', h11, h12, h13⟩
    · obtain ⟨e, he, hk⟩ := hin
      exact absurd hk (h12 e he)
    · have hv : e'.val = .int .i64 2 := hfst j' e' h12 h13
      simp [Instr.lookup, run_underlying Tryz.underlying78, MapKept.run_getObj_map hw3, law80.check w3 _ hl2, h11, hv, Result.andThen]
end Go.Proofs.YtcplaafmelcndaaGreatDoor.At
end
section
/- Package strings' functions in given form: Trim, TrimLeft, IndexByte, Contains and Cut at one byte. -/
set_option linter.unusedVariables false
set_option linter.unusedSimpArgs false
set_option maxRecDepth 20000
namespace Go.Proofs.YtcplaafmelcndaaGreatDoor.At
open Go.RowKit Go.Lib Go.Shelf
theorem hasc (s : ByteArray) (h : s.data.toList.all (fun b => decide (b.toNat < 128)) = true) : ∀ (j : Nat) b, s.data.toList[j]? = some b → b.toNat < 128 :=
  fun _ b hb => of_decide_eq_true (List.all_eq_true.1 h b (List.mem_of_getElem? hb))
def strings_Trim.f (a0 : ByteArray) (a1 : ByteArray) : Option ByteArray := if a0.size ≤ 9223372036854775807 ∧ a1.size < 4294967281 ∧ a1.data.toList.all (fun b => decide (b.toNat < 128)) = true then some ⟨(Lib.trimS a0.data.toList a1.data.toList).toArray⟩ else none
theorem strings_Trim.calls (a0 : ByteArray) (a1 : ByteArray) (r : ByteArray) (w : World) (h : strings_Trim.f a0 a1 = some r) :
    Calls Tryz.prog 75 #[.string a0, .string a1] w fun e w' => e = .returned (.string r) ∧ Below w.heap.size w w' := by
  unfold strings_Trim.f at h
  split at h
  case isFalse => cases h
  case isTrue hc =>
    obtain rfl := Option.some.inj h
    exact Any.strings_Trim_laid Tryz.lays160 (by kernel_rfl) a0 a1 w hc.1 hc.2.1 (hasc a1 hc.2.2)
def strings_IndexByte.f (a0 : ByteArray) (a1 : Int) : Option Int := some (Lib.indexByte a0.data.toList a1.toNat.toUInt8)
theorem strings_IndexByte.calls (a0 : ByteArray) (a1 : Int) (r : Int) (w : World) (h : strings_IndexByte.f a0 a1 = some r) :
    Calls Tryz.prog 108 #[.string a0, .int .u8 a1] w fun e w' => e = .returned (.int .i64 r) ∧ Below w.heap.size w w' := by
  obtain rfl := Option.some.inj h
  exact (Tryz.strings_IndexByte a0 a1 w).mono fun e w' ⟨he, hw⟩ => ⟨he, by rw [hw]; exact Below.refl _ _⟩
/-- The one byte of a text. -/
def byte1 (s : ByteArray) : Option UInt8 := match s.data.toList with | [c] => some c | _ => none
theorem byte1_eq {s : ByteArray} {c : UInt8} (h : byte1 s = some c) : s = ⟨#[c]⟩ := by
  unfold byte1 at h
  split at h
  case h_1 c' hs =>
    obtain rfl := Option.some.inj h
    have : s.data = #[c'] := by rw [← Array.toArray_toList (xs := s.data), hs]
    cases s
    simp only at this
    rw [this]
  case h_2 => cases h
def strings_Contains.f (a0 : ByteArray) (a1 : ByteArray) : Option Bool := (byte1 a1).bind fun c => some (decide (0 ≤ Lib.indexByte a0.data.toList c))
theorem strings_Contains.calls (a0 : ByteArray) (a1 : ByteArray) (r : Bool) (w : World) (h : strings_Contains.f a0 a1 = some r) :
    Calls Tryz.prog 69 #[.string a0, .string a1] w fun e w' => e = .returned (.bool r) ∧ Below w.heap.size w w' := by
  unfold strings_Contains.f at h
  obtain ⟨c, h1, h2⟩ := Option.bind_eq_some_iff.1 h
  obtain rfl := Option.some.inj h2
  obtain rfl := byte1_eq h1
  exact (Tryz.strings_Contains_one a0 c w).mono fun e w' ⟨he, hw⟩ => ⟨he, by rw [hw]; exact Below.refl _ _⟩
/-- What stands ahead of a byte, and behind it. -/
def cutV (s : ByteArray) (c : UInt8) : ByteArray × ByteArray × Bool :=
  if 0 ≤ Lib.indexByte s.data.toList c then (s.extract 0 (Lib.indexByte s.data.toList c).toNat, s.extract ((Lib.indexByte s.data.toList c).toNat + 1) s.size, true) else (s, ⟨#[]⟩, false)
def strings_Cut.f (a0 : ByteArray) (a1 : ByteArray) : Option (ByteArray × ByteArray × Bool) := if a0.size ≤ 9223372036854775806 then (byte1 a1).bind fun c => some (cutV a0 c) else none
set_option maxHeartbeats 1000000 in
theorem lite_Cut (a0 : ByteArray) (c : UInt8) (hs : a0.size ≤ 9223372036854775806) (w : World) :
    Calls Tryz.prog 94 #[.string a0, .string ⟨#[c]⟩] w fun e w' => e = .returned (.tuple #[.string (cutV a0 c).1, .string (cutV a0 c).2.1, .bool (cutV a0 c).2.2]) ∧ Below w.heap.size w w' := by
  have h1 := Tryz.stringslite_Index_one a0 c w
  have h0 := Lib.indexByte_ge a0.data.toList c
  have hsz : (a0.data.toList.length : Int) = a0.size := by rw [Array.length_toList]; rfl
  have hlt : Lib.indexByte a0.data.toList c < a0.size := by
    rcases Int.lt_or_le (Lib.indexByte a0.data.toList c) 0 with h | h
    · omega
    · obtain ⟨o, ho⟩ : ∃ o : Nat, Lib.indexByte a0.data.toList c = o := ⟨_, (Int.toNat_of_nonneg h).symm⟩
      have h2 := (Lib.indexByte_some ho).1
      have h3 := (List.getElem?_eq_some_iff.1 h2).1
      omega
  have hcut : cutV a0 c = if 0 ≤ Lib.indexByte a0.data.toList c then (a0.extract 0 (Lib.indexByte a0.data.toList c).toNat, a0.extract ((Lib.indexByte a0.data.toList c).toNat + 1) a0.size, true) else (a0, ⟨#[]⟩, false) := rfl
  rw [hcut]
  clear hcut
  generalize Lib.indexByte a0.data.toList c = q at h1 h0 hlt ⊢
  clear hsz
  by_cases hq : 0 ≤ q
  · rw [if_pos hq]
    obtain ⟨n, rfl⟩ : ∃ n : Nat, q = n := ⟨q.toNat, (Int.toNat_of_nonneg hq).symm⟩
    have HLT := Lib.hid hlt
    have HS := Lib.hid hs
    have p1 : decide ((0 : Int) ≤ (n : Int)) = true := decide_eq_true (by omega)
    have p2 := eq_true (show (0 : Int) ≤ (n : Int) by omega)
    have q2 := eq_true (show (n : Int) ≤ (a0.size : Int) by omega)
    have q3 := eq_true (show ((n : Int) + 1) ≤ (a0.size : Int) by omega)
    have q4 : wrap64 ((n : Int) + 1) = (n : Int) + 1 := Go.IntWalk.wrap64_in _ (by omega)
    have q5 := eq_true (show (0 : Int) ≤ (n : Int) + 1 by omega)
    clear h0 hlt hq hs
    go_enter Tryz.func94, Tryz.ntmps94
    go_wp2_with (go_at_call 132; refine h1.mono ?_)
    rintro e w2 ⟨rfl, rfl⟩
    go_wp2_with fail
    go_region
    all_goals (go_wp2_with fail)
    all_goals go_ret3
    all_goals exact ⟨rfl, by first | exact Below.refl _ _ | exact (Below.refl _ _).drew | exact pw_drewB _⟩
  · rw [if_neg hq]
    have p1 : decide ((0 : Int) ≤ q) = false := decide_eq_false hq
    go_enter Tryz.func94, Tryz.ntmps94
    go_wp2_with (go_at_call 132; refine h1.mono ?_)
    go_ret3
    exact ⟨rfl, Below.refl _ _⟩
theorem strings_Cut.calls (a0 : ByteArray) (a1 : ByteArray) (r1 : ByteArray) (r2 : ByteArray) (r3 : Bool) (w : World) (h : strings_Cut.f a0 a1 = some (r1, r2, r3)) :
    Calls Tryz.prog 68 #[.string a0, .string a1] w fun e w' => e = .returned (.tuple #[.string r1, .string r2, .bool r3]) ∧ Below w.heap.size w w' := by
  unfold strings_Cut.f at h
  split at h
  case isFalse => cases h
  case isTrue hs =>
    obtain ⟨c, h1, h2⟩ := Option.bind_eq_some_iff.1 h
    obtain rfl := byte1_eq h1
    have h3 := lite_Cut a0 c hs w
    rw [Option.some.inj h2] at h3
    clear h h1 h2 hs
    go_enter Tryz.func68, Tryz.ntmps68
    go_wp2_with (go_at_call 94; refine h3.mono ?_)
    rintro e w2 rfl hb
    go_wp2_with fail
    go_ret3
    exact ⟨rfl, hb⟩
def strings_HasPrefix.f (a0 : ByteArray) (a1 : ByteArray) : Option Bool := some (Lib.hasPrefix a0.data.toList a1.data.toList)
theorem strings_HasPrefix.calls (a0 : ByteArray) (a1 : ByteArray) (r : Bool) (w : World) (h : strings_HasPrefix.f a0 a1 = some r) :
    Calls Tryz.prog 126 #[.string a0, .string a1] w fun e w' => e = .returned (.bool r) ∧ Below w.heap.size w w' := by
  obtain rfl := Option.some.inj h
  exact (Tryz.strings_HasPrefix a0 a1 w).mono fun e w' ⟨he, hw⟩ => ⟨he, by rw [hw]; exact Below.refl _ _⟩
def strings_CutPrefix.f (a0 : ByteArray) (a1 : ByteArray) : Option (ByteArray × Bool) := some (⟨(Lib.trimPrefix a0.data.toList a1.data.toList).toArray⟩, Lib.hasPrefix a0.data.toList a1.data.toList)
theorem strings_CutPrefix.calls (a0 : ByteArray) (a1 : ByteArray) (r1 : ByteArray) (r2 : Bool) (w : World) (h : strings_CutPrefix.f a0 a1 = some (r1, r2)) :
    Calls Tryz.prog 109 #[.string a0, .string a1] w fun e w' => e = .returned (.tuple #[.string r1, .bool r2]) ∧ Below w.heap.size w w' := by
  have h2 := Option.some.inj h
  obtain rfl := congrArg Prod.fst h2
  obtain rfl := congrArg Prod.snd h2
  exact (Tryz.strings_CutPrefix a0 a1 w).mono fun e w' ⟨he, hw⟩ => ⟨he, by rw [hw]; exact Below.refl _ _⟩
end Go.Proofs.YtcplaafmelcndaaGreatDoor.At
end
section
/- media.Small by hand: a row of bytes out of a text, written over, and a text again. -/
set_option linter.unusedVariables false
set_option linter.unusedSimpArgs false
set_option maxRecDepth 20000
namespace Go.Proofs.YtcplaafmelcndaaGreatDoor.At
open Go.RowKit Go.Lib Go.Shelf
def lowB (c : UInt8) : UInt8 := if 65 ≤ c.toNat ∧ c.toNat ≤ 90 then c ||| 32 else c
def smallV (s : ByteArray) : ByteArray := ⟨(s.data.toList.map lowB).toArray⟩
/-- The row of bytes under way: those ahead of i are small. -/
def SmR (s : ByteArray) (h i : Nat) (w : World) : Prop :=
  (∀ j (hj : j < s.size), w.cell? ⟨h, j, none⟩ = some (.int .u8 (if j < i then lowB (s.data.toList[j]'(by rw [Array.length_toList]; exact hj)) else s.data.toList[j]'(by rw [Array.length_toList]; exact hj)).toNat)) ∧ ∀ j, j < s.size → w.frozen? ⟨h, j, none⟩ = false
theorem bits_or (y : UInt8) : bits BinOp.or IntKind.u8 (y.toNat : Int) 32 = ((y ||| 32).toNat : Int) := by
  have h : ∀ n : Fin 256, bits BinOp.or IntKind.u8 (n.val : Int) 32 = (((UInt8.ofNat n.val) ||| 32).toNat : Int) := by decide
  have h1 := h ⟨y.toNat, y.toNat_lt⟩
  simp only [UInt8.ofNat_toNat] at h1
  exact h1
theorem small_size (s : ByteArray) : (smallV s).size = s.size := by
  show (s.data.toList.map lowB).toArray.size = s.data.size
  simp
theorem sm_keep {s : ByteArray} {h i : Nat} {w : World} (hR : SmR s h i w) (hi : i < s.size) (hl : lowB (s.data.toList[i]'(by rw [Array.length_toList]; exact hi)) = s.data.toList[i]'(by rw [Array.length_toList]; exact hi)) : SmR s h (i + 1) w := by
  refine ⟨fun j hj => ?_, hR.2⟩
  rw [hR.1 j hj]
  by_cases h1 : j < i
  · rw [if_pos h1, if_pos (by omega)]
  · rw [if_neg h1]
    by_cases h2 : j = i
    · subst h2
      rw [if_pos (by omega), hl]
    · rw [if_neg (by omega)]
theorem sm_set {s : ByteArray} {h i : Nat} {w : World} {y : UInt8} (hR : SmR s h i w) (hi : i < s.size) (hy : y = s.data.toList[i]'(by rw [Array.length_toList]; exact hi)) : SmR s h (i + 1) (w.setCell ⟨h, i, none⟩ (.int .u8 (lowB y).toNat)) := by
  refine ⟨fun j hj => ?_, fun j hj => by rw [World.frozen?_setCell]; exact hR.2 j hj⟩
  by_cases h2 : j = i
  · subst h2
    rw [World.cell?_setCell_same _ _ _ (hR.1 j hj), if_pos (by omega), hy]
  · rw [World.cell?_setCell_other _ _ _ _ (by intro e; injection e with _ e2; exact h2 e2.symm), hR.1 j hj]
    by_cases h1 : j < i
    · rw [if_pos h1, if_pos (by omega)]
    · rw [if_neg h1, if_neg (by omega)]
theorem sm_done {s : ByteArray} {h : Nat} {w : World} (hR : SmR s h s.size w) : Lib.Bytes w h 0 (smallV s) := by
  intro i hi
  have hi' : i < s.size := by rwa [small_size] at hi
  rw [Nat.zero_add, hR.1 i hi', if_pos hi']
  have : (smallV s)[i] = lowB (s.data.toList[i]'(by rw [Array.length_toList]; exact hi')) := by
    show (s.data.toList.map lowB).toArray[i]'(by simpa using hi') = _
    rw [List.getElem_toArray, List.getElem_map]
  rw [this]
def media_Small.f (a0 : ByteArray) : Option ByteArray := if a0.size ≤ 1000000000000 then some (smallV a0) else none
theorem media_Small.calls (a0 : ByteArray) (r : ByteArray) (w : World) (h : media_Small.f a0 = some r) :
    Calls Tryz.prog 47 #[.string a0] w fun e w' => e = .returned (.string r) ∧ Below w.heap.size w w' := by
  unfold media_Small.f at h
  split at h
  case isFalse => cases h
  case isTrue hs =>
  obtain rfl := Option.some.inj h
  clear h
  have hcv := Go.Lib.run_convert_string_bytes (P := Tryz.prog) w 9 55 5 a0 Tryz.underlying9 Tryz.underlying55 Tryz.underlying5
  have hB0 : Below w.heap.size w (bytesWorld w 5 a0) := ⟨rfl, rfl, rfl, by rw [bytesWorld_size]; omega, fun k hk => bytesWorld_at_old w 5 a0 k hk⟩
  have hR0 : SmR a0 w.heap.size 0 (bytesWorld w 5 a0) := ⟨fun j hj => by
    rw [bytesWorld_cell w 5 a0 j hj, if_neg (Nat.not_lt_zero _)]
    simp [List.getD, hj], fun j hj => by
    have h1 := bytesWorld_at_new w 5 a0
    have h2 : a0.size ≤ (bytesCells w 5 a0).size := by unfold bytesCells; rw [Array.size_append, Array.size_map]; show a0.data.size ≤ _; omega
    unfold World.frozen?
    rw [h1]
    simp only [Bool.and_eq_false_iff, decide_eq_false_iff_not]
    left
    omega⟩
  have hlm : (a0.size : Int) < 9223372036854775807 := by omega
  generalize grownCap w a0.size 0 5 = cc at hcv
  generalize bytesWorld w 5 a0 = W1 at hcv hB0 hR0
  have HCV := Lib.hid hcv
  have HB0 := Lib.hid hB0
  have HR0 := Lib.hid hR0
  have HL := Lib.hid hs
  clear hcv hB0 hR0 hs
  go_enter Tryz.func47, Tryz.ntmps47
  go_wp2_with fail
  rw [HCV.out]
  simp only [Result.andThen]
  rw [Oper.upon_value]
  go_wp2_with fail
  clear hlm
  go_loopg [10] a0.size (fun kx s10 wr => ∃ i : Nat, s10 = .int .i64 (i : Int) ∧ i ≤ a0.size ∧ a0.size - i ≤ kx ∧ Hid (Below w.heap.size w wr ∧ SmR a0 w.heap.size i wr))
  case atStart => exact ⟨0, rfl, by omega, by omega, ⟨HB0.out, HR0.out⟩⟩
  case round =>
    obtain ⟨i, rfl, hi, hkx, HW⟩ := hrel
    by_cases hlt : i < a0.size
    · have hc := HW.out.2.1 i hlt
      have hf := HW.out.2.2 i hlt
      rw [if_neg (Nat.lt_irrefl i)] at hc
      obtain ⟨y, hy⟩ : ∃ y, y = a0.data.toList[i]'(by rw [Array.length_toList]; exact hlt) := ⟨_, rfl⟩
      rw [← hy] at hc
      have HY := Lib.hid hy
      have HI := Lib.hid (And.intro hlt hkx)
      have p1 : decide ((0 : Int) ≤ (i : Int)) = true := decide_eq_true (by omega)
      have q1 : decide ((i : Int) < (a0.size : Int)) = true := decide_eq_true (by omega)
      have p2 := eq_true (show (0 : Int) ≤ (i : Int) by omega)
      have q2 := eq_true (show (i : Int) < (a0.size : Int) by omega)
      clear hy hi hkx
      by_cases h65 : (65 : Int) ≤ (y.toNat : Int)
      · by_cases h90 : (y.toNat : Int) ≤ 90
        · have hlow : lowB y = y ||| 32 := by unfold lowB; rw [if_pos (by omega)]
          have hor := bits_or y
          have HOR := Lib.hid (And.intro hlow hor)
          clear hlow hor
          go_wp2_with fail
          go_roundg (a0.size - (i + 1))
          case measure => have := HI.out; omega
          case rel => exact ⟨i + 1, by rw [Go.IntWalk.wrap64_in _ (by have := HI.out; have := HL.out; omega)]; rfl, by have := HI.out; omega, Nat.le_refl _, ⟨HW.out.1.setCell (Nat.le_refl _) _, by rw [HOR.out.2, ← HOR.out.1]; exact sm_set HW.out.2 HI.out.1 HY.out⟩⟩
        · have hlow : lowB y = y := by unfold lowB; rw [if_neg (by omega)]
          have HOR := Lib.hid hlow
          clear hlow
          go_wp2_with fail
          go_roundg (a0.size - (i + 1))
          case measure => have := HI.out; omega
          case rel => exact ⟨i + 1, by rw [Go.IntWalk.wrap64_in _ (by have := HI.out; have := HL.out; omega)]; rfl, by have := HI.out; omega, Nat.le_refl _, ⟨HW.out.1, sm_keep HW.out.2 HI.out.1 (by rw [← HY.out]; exact HOR.out)⟩⟩
      · have hlow : lowB y = y := by unfold lowB; rw [if_neg (by omega)]
        have HOR := Lib.hid hlow
        clear hlow
        go_wp2_with fail
        go_roundg (a0.size - (i + 1))
        case measure => have := HI.out; omega
        case rel => exact ⟨i + 1, by rw [Go.IntWalk.wrap64_in _ (by have := HI.out; have := HL.out; omega)]; rfl, by have := HI.out; omega, Nat.le_refl _, ⟨HW.out.1, sm_keep HW.out.2 HI.out.1 (by rw [← HY.out]; exact HOR.out)⟩⟩
    · obtain rfl : i = a0.size := by omega
      have q1 : decide ((a0.size : Int) < (a0.size : Int)) = false := decide_eq_false (by omega)
      have hb : Lib.Bytes wr w.heap.size 0 (smallV a0) := sm_done HW.out.2
      have hse : (smallV a0).size = a0.size := small_size a0
      have hcw := Lib.run_convert_whole (P := Tryz.prog) wr 55 5 9 Tryz.underlying55 Tryz.underlying5 Tryz.underlying9 w.heap.size 0 (smallV a0) hb cc
      rw [hse] at hcw
      have HCW := Lib.hid hcw
      clear hi hkx hlt hb hse hcw
      go_wp2_with fail
      rw [HCW.out]
      simp only [Result.andThen]
      rw [Oper.upon_value]
      go_wp2_with fail
      go_ret
      exact ⟨rfl, HW.out.1⟩
end Go.Proofs.YtcplaafmelcndaaGreatDoor.At
end
