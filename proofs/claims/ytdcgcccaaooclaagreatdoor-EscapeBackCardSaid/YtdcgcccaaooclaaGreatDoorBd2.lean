/- 13 texts in one file: Rep, Rbb, Rbs, Rpb, Pui, Pin, Shelf, Str, Gly, Nam, Rps, Rpw, Rrp. -/
import Derived.Test.YtdcgcccaaooclaaGreatDoorBd0
import Derived.Test.YtdcgcccaaooclaaGreatDoorWLast
import Derived.Test.YtdcgcccaaooclaaGreatDoorWMore
import Derived.Lib.Hide
import Derived.WalkSpells
import Derived.WalkLawsBesides
import Derived.Deep.LoopGhost
import Derived.Outline
import Derived.Deep.WholeRow
import Derived.Lib.ConvBytes
import Derived.Lib.SlBytesRow
import Derived.Shelf.Strings.Builder1
import Derived.Shelf.Strings.Builder2
import Derived.Shelf.Strings.Trim
import Derived.Shelf.Small.Utf8
import Derived.Shelf.Small.Strs
import Derived.Shelf.Small.Wraps
import Derived.Shelf.Strings.BuilderF
import Derived.Shelf.Strings.BuilderK
import Derived.Shelf.Strings.Builder2Cap
import Derived.Shelf.Strings.Search1
import Derived.Shelf.Strings.Search2
import Derived.Shelf.Strings.Search3
import Derived.Shelf.Strings.Cut
import Derived.Shelf.Strings.Count
import Derived.Shelf.LaysM
import Derived.Shelf.Strings.Shaped
import Derived.Shelf.Strings.Prefix
import Derived.Shelf.Unicode.Decode
import Derived.Shelf.Strings.Runes
import Derived.Shelf.Strings.AsciiSet
import Derived.Shelf.Unicode.DecodeSlow
import Derived.Shelf.Unicode.DecodeAny
import Derived.Shelf.Strings.BuilderCap
import Derived.Test.YtdcgcccaaooclaaGreatDoorProg
import Derived.Shelf.Strings.SlTrimAscii
import Derived.Lib.IndexLaws
import Derived.Lib.OthersKept
import Derived.Lib.TrimU
import Derived.Maps.Keyed
import Derived.WideKeyEntry
import Derived.Laws.EntriesVeiled
import Derived.Laws.CopyOwn
import Derived.Deep.RegionLaw
import Derived.Deep.QuietTactic
import Derived.BigQuiet
section
/- strings.NewReplacer at this program. -/
set_option linter.unusedVariables false
set_option linter.unusedSimpArgs false
set_option maxRecDepth 20000
namespace Go.Proofs.YtdcgcccaaooclaaGreatDoor.Rep
open Go.RowKit Go.Lib Go.Proofs.YtdcgcccaaooclaaGreatDoorW.PrintWords Go.Proofs.YtdcgcccaaooclaaGreatDoorW.PrintLast Go.Proofs.YtdcgcccaaooclaaGreatDoorW.PrintMore
theorem info9 : (Tryz.prog.info? 9).map (fun i => (i.zero, i.size, i.bytes)) = some (some (.string ⟨#[]⟩), 1, 16) := by kernel_rfl
/-- A Replacer as it was made: not yet built, with its texts. -/
def New (w : World) (b : Nat) (ps : List ByteArray) : Prop := ∃ A c, w.heap[b]? = some (.cells #[.int .u32 0, .int .i32 0, .int .u32 0, .nilIface, .slice A ps.length c] 65 (0, 0)) ∧ Kd.C Kd.string w A ps.length ps ∧ ps.length ≤ c
/-- A Replacer's texts. -/
def Old (w : World) (b : Nat) (ps : List ByteArray) : Prop := ∃ A c, w.cell? ⟨b, 4, none⟩ = some (.slice A ps.length c) ∧ Kd.C Kd.string w A ps.length ps ∧ ps.length ≤ c
set_option maxHeartbeats 1000000 in
theorem new_c (A : Option Addr) (ps : List ByteArray) (c : Nat) (w : World) (hC : Kd.C Kd.string w A ps.length ps) (hc : ps.length ≤ c) (hl : ps.length ≤ 100) (he : ps.length % 2 = 0) :
    Calls Tryz.prog 19 #[.slice A ps.length c] w fun e w' => ∃ b, e = .returned (.pointer (some ⟨b, 0, none⟩)) ∧ New w' b ps ∧ w.heap.size ≤ b ∧ Below w.heap.size w w' := by
  have hm : ((ps.length : Int) % 2 == 1) = false := beq_eq_false_iff_ne.2 (by omega)
  have HC := Lib.hid hC
  have HL := Lib.hid (And.intro hc hl)
  clear hC hc hl he
  go_enter Tryz.func19, Tryz.ntmps19
  go_wp2_with (first | (at_builtin; refine Kd.R_append_rows Kd.string (w0 := w) w.heap.size rfl (.const (.slice none 0 0)) (.tmp 8) 32 9 (.string ⟨#[]⟩) 16 rfl Tryz.underlying32 info9 rfl (by decide) (by decide) (.slice none 0 0) [] ps A ps.length c (fun _ => True) (fun _ => True) rfl rfl (Kd.R_nil _ _ _ _ _) HC.out (fun _ _ h => h) (fun _ _ => ⟨trivial, by simp [Value.ownBlock]⟩) (fun _ _ => trivial) (Below.refl _ _) (Nat.le_refl _) (by have := HL.out.2; simp only [List.length_nil]; omega) ?_; intro v1 w1 hR hb hg hat; clear hg hat; obtain ⟨B, d, rfl⟩ := Kd.R_slice hR; have HR : Hid (Kd.C Kd.string w1 B ps.length ps ∧ ps.length ≤ d) := Lib.hid ⟨(Kd.R_reads' hR).2.2, (Kd.R_reads' hR).2.1⟩; have HB := Lib.hid hb; clear hR hb))
  go_ret
  exact ⟨_, rfl, ⟨B, d, heap_alloc_new w1 _, Kd.C_alloc HR.out.1 _, HR.out.2⟩, HB.out.size, HB.out.alloc HB.out.size _⟩
end Go.Proofs.YtdcgcccaaooclaaGreatDoor.Rep
end
section
/- (*strings.Replacer).build where all olds and all news are one byte: a table of bytes. -/
set_option linter.unusedVariables false
set_option linter.unusedSimpArgs false
set_option maxRecDepth 20000
namespace Go.Proofs.YtdcgcccaaooclaaGreatDoor.Rep
open Go.RowKit Go.Lib Go.Proofs.YtdcgcccaaooclaaGreatDoorW.PrintWords Go.Proofs.YtdcgcccaaooclaaGreatDoorW.PrintLast Go.Proofs.YtdcgcccaaooclaaGreatDoorW.PrintMore
/-- Cells by their number. -/
def row (n : Nat) (f : Nat → Value) : Array Value := ((List.range n).map f).toArray
theorem row_size (n : Nat) (f : Nat → Value) : (row n f).size = n := by simp [row]
theorem row_get (n : Nat) (f : Nat → Value) (i : Nat) (h : i < n) : (row n f)[i]? = some (f i) := by simp [row, h]
theorem row_set (n : Nat) (f : Nat → Value) (i : Nat) (v : Value) : (row n f).setIfInBounds i v = row n (fun j => if j = i then v else f j) := by
  apply Array.ext_getElem?
  intro j
  by_cases h : j < n
  · rw [Array.getElem?_setIfInBounds]
    by_cases hj : i = j
    · subst hj; simp [row, h]
    · have hj' : ¬ j = i := fun e => hj e.symm
      simp [row, h, hj, hj']
  · have h1 : (row n f).size ≤ j := by rw [row_size]; omega
    rw [Array.getElem?_eq_none (by rw [Array.size_setIfInBounds]; exact h1), Array.getElem?_eq_none (by rw [row_size]; omega)]
theorem row_congr (n : Nat) (f g : Nat → Value) (h : ∀ i, i < n → f i = g i) : row n f = row n g := by
  unfold row
  congr 1
  exact List.map_congr_left (fun i hi => h i (List.mem_range.1 hi))
theorem row_one (n : Nat) (f : Nat → Value) (h : ∀ i, i < n → (f i).oneCell' = true) : (row n f).all (·.oneCell') = true := by
  rw [Array.all_eq_true']
  intro x hx
  simp only [row, List.mem_toArray, List.mem_map, List.mem_range] at hx
  obtain ⟨i, hi, rfl⟩ := hx
  exact h i hi
theorem one0 (x : UInt8) (h : 0 < (⟨#[x]⟩ : ByteArray).size) : (⟨#[x]⟩ : ByteArray)[0] = x := rfl
attribute [local go_sem] one0
/-- The texts of pairs. -/
def flat : List (UInt8 × ByteArray) → List ByteArray
  | [] => []
  | p :: l => ⟨#[p.1]⟩ :: p.2 :: flat l
theorem flat_len : ∀ l : List (UInt8 × ByteArray), (flat l).length = 2 * l.length
  | [] => rfl
  | p :: l => by simp only [flat, List.length_cons, flat_len l]; omega
theorem flat_old : ∀ (l : List (UInt8 × ByteArray)) (k : Nat) (h : k < l.length), (flat l)[2 * k]? = some ⟨#[l[k].1]⟩
  | p :: l, 0, _ => rfl
  | p :: l, k + 1, h => by
    rw [show 2 * (k + 1) = 2 * k + 1 + 1 by omega]
    simp only [flat, List.getElem?_cons_succ, List.getElem_cons_succ]
    exact flat_old l k (by simpa using h)
theorem flat_new : ∀ (l : List (UInt8 × ByteArray)) (k : Nat) (h : k < l.length), (flat l)[2 * k + 1]? = some l[k].2
  | p :: l, 0, _ => rfl
  | p :: l, k + 1, h => by
    rw [show 2 * (k + 1) + 1 = 2 * k + 1 + 1 + 1 by omega]
    simp only [flat, List.getElem?_cons_succ, List.getElem_cons_succ]
    exact flat_new l k (by simpa using h)
theorem rd_of {l : List ByteArray} {i : Int} {x : ByteArray} (h : l[i.toNat]? = some x) : rdOf ByteArray.empty l i = x := by
  unfold rdOf
  rw [List.getD_eq_getElem?_getD, h]; rfl
/-- What a pair's texts are in memory. -/
theorem at_pair {w : World} {A : Option Addr} {n : Nat} {prs : List (UInt8 × ByteArray)} (h : Kd.C Kd.string w A n (flat prs)) (hn : n = 2 * prs.length) (q : Int) (h0 : 0 ≤ q) (h1 : q < (n : Int)) (h2 : q % 2 = 0) :
    ∃ ad x y, A = some ad ∧ w.cell? (ad.add q.toNat) = some (.string ⟨#[x]⟩) ∧ w.cell? (ad.add (q + 1).toNat) = some (.string y) ∧ prs[q.toNat / 2]? = some (x, y) := by
  have hk : q.toNat / 2 < prs.length := by omega
  obtain ⟨ad, ea, c0⟩ := Kd.at_string h q h0 h1
  obtain ⟨ad2, ea2, c1⟩ := Kd.at_string h (q + 1) (by omega) (by omega)
  rw [ea] at ea2
  cases ea2
  rw [rd_of (x := ⟨#[prs[q.toNat / 2].1]⟩) (by have := flat_old prs (q.toNat / 2) hk; rwa [show 2 * (q.toNat / 2) = q.toNat by omega] at this)] at c0
  rw [rd_of (x := prs[q.toNat / 2].2) (by have := flat_new prs (q.toNat / 2) hk; rwa [show 2 * (q.toNat / 2) + 1 = (q + 1).toNat by omega] at this)] at c1
  exact ⟨ad, _, _, ea, c0, c1, List.getElem?_eq_getElem hk⟩
/-- A block of the call's own, by its cells' numbers. -/
structure BB (w W : World) (B n t : Nat) (f : Nat → Value) : Prop where
  low : Below w.heap.size w W
  blk : W.heap[B]? = some (.cells (row n f) t (0, 0))
  base : w.heap.size ≤ B
variable {w W : World} {B n t : Nat} {f g : Nat → Value}
theorem BB.put (h : BB w W B n t f) (i : Nat) (v : Value) : BB w (W.setCell ⟨B, i, none⟩ v) B n t (fun j => if j = i then v else f j) := ⟨below_set h.low h.base, blk_put h.blk i v (row_set n f i v), h.base⟩
theorem BB.cell (h : BB w W B n t f) (i : Nat) (hi : i < n) : W.cell? ⟨B, i, none⟩ = some (f i) := (blk_cell h.blk i).trans (row_get n f i hi)
theorem BB.frozen (h : BB w W B n t f) (i : Nat) : W.frozen? ⟨B, i, none⟩ = false := blk_frozen h.blk i
theorem BB.congr (h : BB w W B n t f) (e : ∀ i, i < n → f i = g i) : BB w W B n t g := ⟨h.low, by rw [← row_congr n f g e]; exact h.blk, h.base⟩
/-- What the table of bytes holds. -/
def tabB : List (UInt8 × ByteArray) → Nat → Nat
  | [], c => c
  | p :: l, c => if c = p.1.toNat then (p.2.data.toList.headD 0).toNat else tabB l c
theorem zero102 : (Tryz.prog.info? 102).map (fun i => (i.zero, i.size)) = some (some (.agg (row 256 fun _ => .int .u8 0)), 256) := by kernel_rfl
set_option maxHeartbeats 4000000 in
theorem build_byte (b : Nat) (prs : List (UInt8 × ByteArray)) (w : World) (hN : Old w b (flat prs)) (hl : prs.length ≤ 50) (h2 : 2 ≤ prs.length) (h1 : ∀ p ∈ prs, p.2.size = 1) :
    Calls Tryz.prog 40 #[.pointer (some ⟨b, 0, none⟩)] w fun e w' => ∃ B, e = .returned (.iface 103 (.pointer (some ⟨B, 0, none⟩))) ∧ BB w w' B 256 102 (fun c => .int .u8 (tabB prs c : Int)) := by
  obtain ⟨A, c, hb, hC, hc⟩ := hN
  obtain ⟨n, hn⟩ : ∃ n, n = (flat prs).length := ⟨_, rfl⟩
  rw [← hn] at hb hC hc
  have hn2 : n = 2 * prs.length := hn.trans (flat_len prs)
  have c4 : w.cell? ⟨b, 4, none⟩ = some (.slice A n c) := hb
  have HN := Lib.hid (And.intro hn2 hl)
  have HC := Lib.hid hC
  have H1 := Lib.hid h1
  have d1 : ((n : Int) == 2) = false := beq_eq_false_iff_ne.2 (by omega)
  have hn4 : (4 : Int) ≤ (n : Int) := by omega
  have hn1 : (n : Int) ≤ 100 := by omega
  clear hn hb hC hc hn2 hl h1
  go_enter Tryz.func40, Tryz.ntmps40
  go_wp2_with fail
  go_loopg [4, 5] n (fun kx s4 s5 wr => w = wr ∧ s4 = .bool true ∧ ∃ q : Int, s5 = .int .i64 q ∧ 0 ≤ q ∧ q ≤ (n : Int) ∧ q % 2 = 0 ∧ ((n : Int) - q).toNat ≤ kx)
  case atStart => exact ⟨rfl, rfl, 0, rfl, by omega, by omega, rfl, by omega⟩
  case round =>
    obtain ⟨rfl, rfl, q, rfl, hq0, hq1, hq2, hqk⟩ := hrel
    by_cases hlt : q < (n : Int)
    · obtain ⟨ad, x, y, rfl, hx, hy, hp⟩ := at_pair HC.out HN.out.1 q hq0 hlt hq2
      have hy1 : y.size = 1 := H1.out (x, y) (List.mem_of_getElem? hp)
      have hyl : ((y.size : Int) != 1) = false := by rw [hy1]; rfl
      have e1 := eq_true hq0
      have e2 := eq_true hlt
      have e3 := eq_true (show (0 : Int) ≤ q + 1 by omega)
      have e4 := eq_true (show q + 1 < (n : Int) by have := HN.out; omega)
      have c1 : decide (q < (n : Int)) = true := decide_eq_true hlt
      have HQ := Lib.hid (And.intro hq2 (And.intro hqk hlt))
      have hq9 : q ≤ 100 := by omega
      clear hq2 hqk hp hy1 hlt hq1
      go_wp2_with fail
      go_roundg ((n : Int) - (q + 2)).toNat
      case measure => have := HQ.out; omega
      case rel => exact ⟨rfl, rfl, q + 2, rfl, by omega, by have := HQ.out; have := HN.out; omega, by have := HQ.out; omega, Nat.le_refl _⟩
    · obtain rfl : q = (n : Int) := by omega
      have c1 : decide ((n : Int) < (n : Int)) = false := decide_eq_false (by omega)
      clear hq0 hq1 hq2 hqk hlt
      have HZ := Lib.hid (zero_of_info zero102)
      have hz := HZ.out.1
      have hst := run_storeCells_new (P := Tryz.prog) w 102 (row 256 fun _ => .int .u8 0) (row 256 fun _ => .int .u8 0) (by rw [row_size]; exact HZ.out.2) rfl (row_one _ _ (fun _ _ => rfl))
      go_wp2_with fail
      clear hst hz HZ c1
      have HB := Lib.hid (BB.mk (below_alloc (Below.refl w.heap.size w) _) (blk_new w (.cells (row 256 fun _ => .int .u8 0) 102 (0, 0))) (Nat.le_refl _))
      obtain ⟨B, hB⟩ : ∃ B, B = w.heap.size := ⟨_, rfl⟩
      have HBE := Lib.hid hB
      rw [← hB] at HB ⊢
      clear hB
      generalize hw1 : w.alloc (.cells (row 256 fun _ => .int .u8 0) 102 (0, 0)) = w1 at HB ⊢
      clear hw1
      go_loopg [7, 61] 256 (fun kx s7 s61 wr => ∃ i : Nat, s61 = .int .i64 (i : Int) ∧ i ≤ 256 ∧ 256 - i ≤ kx ∧ Hid (BB w wr B 256 102 (fun j => if j < i then .int .u8 (j : Int) else .int .u8 0)))
      case atStart => exact ⟨0, rfl, by omega, by omega, Lib.hid (HB.out.congr (fun i hi => by simp))⟩
      case round =>
        clear HB
        obtain ⟨i, rfl, hi, hik, HB⟩ := hrel
        by_cases hi2 : i < 256
        · have c2 : decide ((i : Int) < 256) = true := decide_eq_true (by omega)
          have hc := HB.out.cell i hi2
          have hf := HB.out.frozen i
          go_wp2_with fail
          go_roundg (256 - (i + 1))
          case measure => omega
          case rel =>
            refine ⟨i + 1, rfl, by omega, Nat.le_refl _, Lib.hid ((HB.out.put i (.int .u8 (i : Int))).congr (fun j hj => ?_))⟩
            by_cases hji : j = i
            · subst hji; simp
            · by_cases h3 : j < i
              · simp [hji, h3, show j < i + 1 by omega]
              · simp [hji, h3, show ¬ j < i + 1 by omega]
        · obtain rfl : i = 256 := by omega
          have c2 : decide (((256 : Nat) : Int) < 256) = false := rfl
          replace HB := Lib.hid (HB.out.congr (g := fun c => .int .u8 (tabB (prs.drop prs.length) c : Int)) (fun j hj => by simp only [List.drop_length, tabB]; rw [if_pos hj]))
          clear hi hik hi2
          go_wp2_with fail
          clear c2
          go_loopg [8, 9, 10] (prs.length + 1) (fun kx s8 s9 s10 wr => ∃ k : Nat, s8 = .int .i64 (2 * (k : Int) - 2) ∧ k ≤ prs.length ∧ k ≤ kx ∧ Hid (BB w wr B 256 102 (fun c => .int .u8 (tabB (prs.drop k) c : Int))))
          case atStart => exact ⟨prs.length, by have := HN.out.1; congr 1; omega, Nat.le_refl _, by omega, HB⟩
          case round =>
            clear HB
            obtain ⟨k, rfl, hk, hkx, HB⟩ := hrel
            by_cases hk0 : 0 < k
            · obtain ⟨q, hq⟩ : ∃ q, q = 2 * (k : Int) - 2 := ⟨_, rfl⟩
              rw [← hq]
              obtain ⟨ad, x, y, rfl, hx, hy, hp⟩ := at_pair (Kd.C_below HC.out HB.out.low) HN.out.1 q (by omega) (by have := HN.out; omega) (by omega)
              have hy1 : y.size = 1 := H1.out (x, y) (List.mem_of_getElem? hp)
              have e1 := eq_true (show 0 ≤ q by omega)
              have e2 := eq_true (show q < (n : Int) by have := HN.out; omega)
              have e3 := eq_true (show (0 : Int) ≤ q + 1 by omega)
              have e4 := eq_true (show q + 1 < (n : Int) by have := HN.out; omega)
              have c3 : decide (0 ≤ q) = true := decide_eq_true (by omega)
              obtain ⟨z, rfl⟩ : ∃ z : UInt8, y = ⟨#[z]⟩ := by
                obtain ⟨d⟩ := y
                obtain ⟨l⟩ := d
                match l, hy1 with
                | [z], _ => exact ⟨z, rfl⟩
              have hq9 : q ≤ 100 := by have := HN.out; omega
              have hx8 : x.toNat < 256 := x.toNat_lt
              have hx9 : (x.toNat : Int) < 256 := by omega
              have hz8 : z.toNat < 256 := z.toNat_lt
              have hq8 : 0 ≤ q := by omega
              have hcx := HB.out.cell x.toNat x.toNat_lt
              have hfx := HB.out.frozen x.toNat
              have HQ := Lib.hid (And.intro hq (And.intro hp (And.intro hk (And.intro hkx hk0))))
              clear hq hp hk hkx hk0 hy1
              go_wp2_with fail
              go_roundg (k - 1)
              case measure => have := HQ.out; omega
              case rel =>
                refine ⟨k - 1, by have := HQ.out; congr 1; omega, by have := HQ.out; omega, Nat.le_refl _, Lib.hid ((HB.out.put x.toNat (.int .u8 (z.toNat : Int))).congr (fun j hj => ?_))⟩
                obtain ⟨h1, h2, h3, _, h4⟩ := HQ.out
                rw [show q.toNat / 2 = k - 1 by omega] at h2
                obtain ⟨h5, h6⟩ := List.getElem?_eq_some_iff.1 h2
                rw [List.drop_eq_getElem_cons h5, h6, show k - 1 + 1 = k by omega]
                by_cases hjx : j = x.toNat
                · rw [if_pos hjx]; simp only [tabB]; rw [if_pos hjx]; rfl
                · rw [if_neg hjx]; simp only [tabB]; rw [if_neg hjx]
            · obtain rfl : k = 0 := by omega
              rw [List.drop_zero] at HB
              clear hk hkx hk0
              go_wp2_with fail
              go_ret
              exact ⟨B, rfl, HB.out⟩
end Go.Proofs.YtdcgcccaaooclaaGreatDoor.Rep
end
section
/- (*strings.Replacer).build where all olds are one byte, and no new is: a table of rows of bytes. -/
set_option linter.unusedVariables false
set_option linter.unusedSimpArgs false
set_option maxRecDepth 20000
namespace Go.Proofs.YtdcgcccaaooclaaGreatDoor.Rep
open Go.RowKit Go.Lib Go.Proofs.YtdcgcccaaooclaaGreatDoorW.PrintWords Go.Proofs.YtdcgcccaaooclaaGreatDoorW.PrintLast Go.Proofs.YtdcgcccaaooclaaGreatDoorW.PrintMore
attribute [local go_sem] one0
/-- What a byte becomes, if anything. -/
def repl : List (UInt8 × ByteArray) → Nat → Option ByteArray
  | [], _ => none
  | p :: l, c => if c = p.1.toNat then some p.2 else repl l c
/-- A row of bytes in memory (a block of bytes), or none. -/
def Slot (W : World) (v : Value) : Option ByteArray → Prop
  | none => v = .slice none 0 0
  | some y => ∃ g cap cs fz, v = .slice (some ⟨g, 0, none⟩) y.size cap ∧ W.heap[g]? = some (.cells cs 5 fz) ∧ ∀ i (h : i < y.size), cs[i]? = some (.int .u8 (y[i].toNat : Int))
/-- Blocks of bytes stay. -/
def T5 (W W' : World) : Prop := ∀ (g : Nat) (cs : Array Value) (fz : Nat × Nat), W.heap[g]? = some (Obj.cells cs 5 fz) → W'.heap[g]? = some (Obj.cells cs 5 fz)
theorem T5.trans {W W' W'' : World} (h : T5 W W') (h2 : T5 W' W'') : T5 W W'' := fun g cs fz hg => h2 g cs fz (h g cs fz hg)
theorem T5.below {W W' : World} (h : Below W.heap.size W W') : T5 W W' := fun g cs fz hg => (h.block g (Array.getElem?_eq_some_iff.1 hg).1).trans hg
theorem T5.set {W : World} {B i t : Nat} {cells : Array Value} {fz2 : Nat × Nat} (hb : W.heap[B]? = some (.cells cells t fz2)) (ht : t ≠ 5) (v : Value) : T5 W (W.setCell ⟨B, i, none⟩ v) := fun g cs fz hg => by
  have hne : g ≠ B := by
    rintro rfl
    rw [hb] at hg
    injection hg with h; injection h with h1 h2 h3
    exact ht h2
  exact (Below.heap_setCell W ⟨B, i, none⟩ v g hne).trans hg
theorem T5.grown {W W' : World} {base e size n : Nat} {v : Value} {xs : List Value} (h : W.grownBy W' v.ownBlock) (ho : W.ownsRow base e size v n xs) (he : e ≠ 5) : T5 W W' := fun g cs fz hg => by
  refine (h.block g (Array.getElem?_eq_some_iff.1 hg).1 (fun hv => ?_)).trans hg
  rcases ho.2 with ⟨rfl, _⟩ | ⟨g', cap, cur, rfl, _, hc, _⟩
  · simp [Value.ownBlock] at hv
  · have : g = g' := by simpa [Value.ownBlock] using hv
    subst this
    rw [hc] at hg
    injection hg with h; injection h with h1 h2 h3
    exact he h2
theorem Slot.keep {W W' : World} {v : Value} {o : Option ByteArray} (h : Slot W v o) (hk : T5 W W') : Slot W' v o := by
  cases o with
  | none => exact h
  | some y =>
    obtain ⟨g, cap, cs, fz, rfl, hb, hc⟩ := h
    exact ⟨g, cap, cs, fz, rfl, hk g cs fz hb, hc⟩
theorem zero106 : (Tryz.prog.info? 106).map (fun i => (i.zero, i.size)) = some (some (.agg (row 257 fun _ => .slice none 0 0)), 257) := by kernel_rfl
def f106 (v : Value) (i : Nat) : Value := if i = 256 then v else .slice none 0 0
theorem set106 (v : Value) : (row 257 fun _ => .slice none 0 0).toList.set 256 v = (row 257 (f106 v)).toList := by
  rw [← Array.toList_setIfInBounds, row_set]; rfl
/-- The olds, the last first. -/
def keysT (l : List (UInt8 × ByteArray)) : List ByteArray := l.reverse.map fun p => ⟨#[p.1]⟩
theorem keysT_cons (x : UInt8) (y : ByteArray) (l : List (UInt8 × ByteArray)) : keysT ((x, y) :: l) = keysT l ++ [⟨#[x]⟩] := by simp [keysT]
theorem keysT_len (l : List (UInt8 × ByteArray)) : (keysT l).length = l.length := by simp [keysT]
/-- The table on its way. -/
structure SB (w W : World) (B : Nat) (f : Nat → Value) (l : List (UInt8 × ByteArray)) : Prop where
  bb : BB w W B 257 106 f
  row : Kd.R Kd.string 9 W w.heap.size (fun k => k ≠ B) (f 256) (keysT l)
  slot : ∀ c, c < 256 → Slot W (f c) (repl l c)
theorem repl_none (l : List (UInt8 × ByteArray)) (x : UInt8) (h : x ∉ l.map (·.1)) : repl l x.toNat = none := by
  induction l with
  | nil => rfl
  | cons p l ih =>
    simp only [List.map_cons, List.mem_cons, not_or] at h
    simp only [repl]
    rw [if_neg (fun e => h.1 (UInt8.toNat_inj.1 e)), ih h.2]
theorem build106 (A : Option Addr) (n c : Nat) (w : World) : (Instr.build 106 #[(1, .slice A n c)]).run Tryz.prog w = .ok (.agg (row 257 (f106 (.slice A n c)))) w := by kernel_rfl
set_option maxHeartbeats 4000000 in
theorem build_str (b : Nat) (prs : List (UInt8 × ByteArray)) (w : World) (hN : Old w b (flat prs)) (hl : prs.length ≤ 50) (h2 : 2 ≤ prs.length) (h1 : ∀ p ∈ prs, p.2.size ≠ 1) (h3 : ∀ p ∈ prs, p.2.size ≤ 1000) (hnd : (prs.map (·.1)).Nodup) :
    Calls Tryz.prog 40 #[.pointer (some ⟨b, 0, none⟩)] w fun e w' => ∃ B f, e = .returned (.iface 107 (.pointer (some ⟨B, 0, none⟩))) ∧ SB w w' B f prs := by
  obtain ⟨A, c, hb, hC, hc⟩ := hN
  obtain ⟨n, hn⟩ : ∃ n, n = (flat prs).length := ⟨_, rfl⟩
  rw [← hn] at hb hC hc
  have hn2 : n = 2 * prs.length := hn.trans (flat_len prs)
  have c4 : w.cell? ⟨b, 4, none⟩ = some (.slice A n c) := hb
  have HN := Lib.hid (And.intro hn2 hl)
  have HC := Lib.hid hC
  have H1 := Lib.hid (And.intro h1 (And.intro h3 hnd))
  have d1 : ((n : Int) == 2) = false := beq_eq_false_iff_ne.2 (by omega)
  have hn4 : (4 : Int) ≤ (n : Int) := by omega
  have hn1 : (n : Int) ≤ 100 := by omega
  clear hn hb hC hc hn2 hl h1 h3 hnd
  go_enter Tryz.func40, Tryz.ntmps40
  go_wp2_with fail
  go_loopg [4, 5] n (fun kx s4 s5 wr => w = wr ∧ ∃ q : Int, ((q = 0 ∧ s4 = .bool true) ∨ (0 < q ∧ s4 = .bool false)) ∧ s5 = .int .i64 q ∧ 0 ≤ q ∧ q ≤ (n : Int) ∧ q % 2 = 0 ∧ ((n : Int) - q).toNat ≤ kx)
  case atStart => exact ⟨rfl, 0, .inl ⟨rfl, rfl⟩, rfl, by omega, by omega, rfl, by omega⟩
  case round =>
    obtain ⟨rfl, q, hs4, rfl, hq0, hq1, hq2, hqk⟩ := hrel
    by_cases hlt : q < (n : Int)
    · obtain ⟨ad, x, y, rfl, hx, hy, hp⟩ := at_pair HC.out HN.out.1 q hq0 hlt hq2
      have hy1 : y.size ≠ 1 := H1.out.1 (x, y) (List.mem_of_getElem? hp)
      have hyl : ((y.size : Int) != 1) = true := bne_iff_ne.2 (by omega)
      have e1 := eq_true hq0
      have e2 := eq_true hlt
      have e3 := eq_true (show (0 : Int) ≤ q + 1 by omega)
      have e4 := eq_true (show q + 1 < (n : Int) by have := HN.out; omega)
      have c1 : decide (q < (n : Int)) = true := decide_eq_true hlt
      have HQ := Lib.hid (And.intro hq2 (And.intro hqk hlt))
      have hq9 : q ≤ 100 := by omega
      clear hq2 hqk hp hy1 hlt hq1 hs4
      go_wp2_with fail
      go_roundg ((n : Int) - (q + 2)).toNat
      case measure => have := HQ.out; omega
      case rel => exact ⟨rfl, q + 2, .inr ⟨by omega, rfl⟩, rfl, by omega, by have := HQ.out; have := HN.out; omega, by have := HQ.out; omega, Nat.le_refl _⟩
    · obtain rfl : q = (n : Int) := by omega
      obtain ⟨h5, rfl⟩ | ⟨h5, rfl⟩ := hs4
      · exact absurd h5 (by omega)
      have c1 : decide ((n : Int) < (n : Int)) = false := decide_eq_false (by omega)
      clear hq0 hq1 hq2 hqk hlt h5
      have HZ := Lib.hid (zero_of_info zero106)
      have hz := HZ.out.1
      have hbd := build106
      have HMK : Hid (∀ W : World, (Instr.makeSlice 32 (.int .i64 0) (.int .i64 ((n : Int) / 2))).run Tryz.prog W = .ok (.slice (some ⟨W.heap.size, 0, none⟩) 0 prs.length) (W.alloc (.cells (madeCells #[.string ⟨#[]⟩] prs.length) 9))) := Lib.hid (fun W => by
        have hh := HN.out
        obtain ⟨i0, hi, hzz⟩ := Option.map_eq_some_iff.1 info9
        simp only [Prod.mk.injEq] at hzz
        have hr := run_makeSlice (P := Tryz.prog) W 32 9 i0 (.string ⟨#[]⟩) Tryz.underlying32 hi hzz.1 .i64 .i64 0 ((n : Int) / 2) (by omega) (by omega) (by rw [hzz.2.1]; omega) (by rw [hzz.2.2]; omega) (by omega)
        rw [hzz.2.1] at hr
        rw [show ((n : Int) / 2).toNat = prs.length by omega] at hr
        rw [Nat.mul_one] at hr
        exact hr)
      have hmk := HMK.out
      have hst : (storeCells ⟨w.heap.size + 1, 0, none⟩ ((row 257 fun _ => .slice none 0 0).toList.set 256 (.slice (some ⟨w.heap.size, 0, none⟩) 0 prs.length)) 0).run Tryz.prog ((w.alloc (.cells (madeCells #[.string ⟨#[]⟩] prs.length) 9)).alloc (.cells (row 257 fun _ => .slice none 0 0) 106)) = .ok () ((w.alloc (.cells (madeCells #[.string ⟨#[]⟩] prs.length) 9)).alloc (.cells (row 257 (f106 (.slice (some ⟨w.heap.size, 0, none⟩) 0 prs.length))) 106)) := by
        have h := run_storeCells_new (P := Tryz.prog) (w.alloc (.cells (madeCells #[.string ⟨#[]⟩] prs.length) 9)) 106 (row 257 fun _ => .slice none 0 0) (row 257 (f106 (.slice (some ⟨w.heap.size, 0, none⟩) 0 prs.length))) (by rw [row_size]; exact HZ.out.2) (by rw [row_size, row_size]) (row_one _ _ (fun i _ => by unfold f106; split <;> rfl))
        rw [set106]
        simpa using h
      go_wp2_with fail
      clear hst hz hbd hmk c1
      have HB : Hid (SB w ((w.alloc (.cells (madeCells #[.string ⟨#[]⟩] prs.length) 9)).alloc (.cells (row 257 (f106 (.slice (some ⟨w.heap.size, 0, none⟩) 0 prs.length))) 106)) (w.heap.size + 1) (f106 (.slice (some ⟨w.heap.size, 0, none⟩) 0 prs.length)) []) := Lib.hid ⟨⟨below_alloc (below_alloc (Below.refl _ _) _) _, by have := blk_new (w.alloc (.cells (madeCells #[.string ⟨#[]⟩] prs.length) 9)) (.cells (row 257 (f106 (.slice (some ⟨w.heap.size, 0, none⟩) 0 prs.length))) 106 (0, 0)); simpa using this, by omega⟩,
        Kd.R_alloc (show Kd.R Kd.string 9 (w.alloc (.cells (madeCells #[.string ⟨#[]⟩] prs.length) 9)) w.heap.size (fun k => k ≠ w.heap.size + 1) (.slice (some ⟨w.heap.size, 0, none⟩) 0 prs.length) [] from ⟨fun k hk => by
            have : w.heap.size = k := by simpa [Value.ownBlock] using hk
            omega, [], World.ownsRow_made w _ prs.length (Nat.le_refl _) (by have := HN.out; unfold maxLen; omega) (by rw [size_madeCells]; exact (Nat.mul_one _).symm), Reps.none _ _⟩) _,
        fun c hc => by
          show f106 _ c = _
          unfold f106
          rw [if_neg (by omega)]⟩
      generalize hB : w.heap.size + 1 = B at HB ⊢
      generalize hf : f106 (.slice (some ⟨w.heap.size, 0, none⟩) 0 prs.length) = f0 at HB ⊢
      have HBE := Lib.hid hB
      clear hB hf
      generalize hw1 : (w.alloc (.cells (madeCells #[.string ⟨#[]⟩] prs.length) 9)).alloc (.cells (row 257 f0) 106) = w1 at HB ⊢
      clear hw1 HMK HZ
      go_loopg [12, 13, 14] (prs.length + 1) (fun kx s12 s13 s14 wr => ∃ k : Nat, s12 = .int .i64 (2 * (k : Int) - 2) ∧ k ≤ prs.length ∧ k ≤ kx ∧ Hid (∃ f, SB w wr B f (prs.drop k)))
      case atStart => exact ⟨prs.length, by have := HN.out.1; congr 1; omega, Nat.le_refl _, by omega, Lib.hid ⟨f0, by rw [List.drop_length]; exact HB.out⟩⟩
      case round =>
        clear HB
        obtain ⟨k, rfl, hk, hkx, HBX⟩ := hrel
        obtain ⟨f, hb⟩ := HBX.out
        have HB := Lib.hid hb
        clear hb HBX
        by_cases hk0 : 0 < k
        · obtain ⟨q, hq⟩ : ∃ q, q = 2 * (k : Int) - 2 := ⟨_, rfl⟩
          rw [← hq]
          obtain ⟨ad, x, y, rfl, hx, hy, hp⟩ := at_pair (Kd.C_below HC.out HB.out.bb.low) HN.out.1 q (by omega) (by have := HN.out; omega) (by omega)
          have e1 := eq_true (show 0 ≤ q by omega)
          have e2 := eq_true (show q < (n : Int) by have := HN.out; omega)
          have e3 := eq_true (show (0 : Int) ≤ q + 1 by omega)
          have e4 := eq_true (show q + 1 < (n : Int) by have := HN.out; omega)
          have c3 : decide (0 ≤ q) = true := decide_eq_true (by omega)
          have hq9 : q ≤ 100 := by have := HN.out; omega
          have hq8 : 0 ≤ q := by omega
          have hx8 : x.toNat < 256 := x.toNat_lt
          have hx9 : (x.toNat : Int) < 256 := by omega
          have HQ := Lib.hid (And.intro hq (And.intro hp (And.intro hk (And.intro hkx hk0))))
          have HD : Hid (prs.drop (k - 1) = (x, y) :: prs.drop k) := by
            obtain ⟨h1, h2, h3, _, h4⟩ := HQ.out
            rw [show q.toNat / 2 = k - 1 by omega] at h2
            obtain ⟨h5, h6⟩ := List.getElem?_eq_some_iff.1 h2
            refine Lib.hid ?_
            rw [List.drop_eq_getElem_cons h5, h6, show k - 1 + 1 = k by omega]
          have hrn : repl (prs.drop k) x.toNat = none := repl_none _ _ (by
            have h6 : ((prs.drop (k - 1)).map (·.1)).Nodup := (List.Sublist.map _ (List.drop_sublist _ _)).nodup H1.out.2.2
            rw [HD.out] at h6
            exact (List.nodup_cons.1 h6).1)
          have hfx : f x.toNat = .slice none 0 0 := by have := HB.out.slot x.toNat hx8; rw [hrn] at this; exact this
          have hcx : wr.cell? ⟨B, x.toNat, none⟩ = some (.slice none 0 0) := (HB.out.bb.cell x.toNat (by omega)).trans (by rw [hfx])
          clear hq hp hk hkx hk0 hrn hfx
          have q30 : ∀ (w : World) (a : Option Addr) (n c n' c' : Nat), (binOp .eql 30 (.slice a n c) (.slice none n' c')).run Tryz.prog w = .ok (.bool a.isNone) w := fun w a n c n' c' => Lib.run_eql_slice_nil w _ _ a n c n' c' Tryz.underlying30
          obtain ⟨T, d, hT⟩ := Kd.R_slice HB.out.row
          rw [keysT_len] at hT
          obtain ⟨m, hm⟩ : ∃ m, m = (prs.drop k).length := ⟨_, rfl⟩
          rw [← hm] at hT
          have h256 : wr.cell? ⟨B, 256, none⟩ = some (.slice T m d) := (HB.out.bb.cell 256 (by omega)).trans (by rw [hT])
          have HT := Lib.hid (And.intro hT hm)
          clear hm
          have hbw : Lib.Bytes (wr.alloc (.cells #[.int .u8 (x.toNat : Int)] 5)) wr.heap.size 0 ⟨#[x]⟩ := by
            intro i hi
            obtain rfl : i = 0 := by
              have : i < 1 := hi
              omega
            rw [Nat.zero_add, blk_cell (blk_new wr (.cells #[.int .u8 (x.toNat : Int)] 5 (0, 0))) 0]
            rfl
          have hcv : (convert 30 9 (.slice (some ⟨wr.heap.size, 0, none⟩) 1 1)).run Tryz.prog (wr.alloc (.cells #[.int .u8 (x.toNat : Int)] 5)) = .ok (.string ⟨#[x]⟩) (wr.alloc (.cells #[.int .u8 (x.toNat : Int)] 5)) := Lib.run_convert_whole _ 30 5 9 Tryz.underlying30 Tryz.underlying5 Tryz.underlying9 _ 0 ⟨#[x]⟩ hbw 1
          have HBL : Hid (B < wr.heap.size) := Lib.hid (blk_lt HB.out.bb.blk)
          have HLEN : Hid ((keysT (prs.drop k) ++ [(⟨#[x]⟩ : ByteArray)]).length = m + 1) := Lib.hid (by rw [List.length_append, keysT_len, ← HT.out.2]; rfl)
          clear hT hbw
          go_upto_region 34 with (first | (at_builtin; refine Kd.R_append Kd.string (w0 := w) w.heap.size rfl (.tmp 119) (.tmp 123) 32 9 (.string ⟨#[]⟩) 16 rfl Tryz.underlying32 info9 rfl (by decide) (by decide) (.slice T m d) (keysT (prs.drop k)) ⟨#[x]⟩ [.string ⟨#[x]⟩] (fun k => k ≠ B) (fun _ => False) ?hs ?hx rfl (fun _ h => h.elim) ?hfr ?hO ?hB2 ?hba ?hl ?_; (case hs => rfl); (case hx => first | (go_simp; done) | (simp; done) | (go_simp; rfl)); (case hfr => intro i hi; have := HBL.out; simp at hi; omega); (case hO => have := HB.out.row; rw [HT.out.1] at this; exact Kd.R_alloc this _); (case hB2 => exact below_alloc HB.out.bb.low _); (case hba => have := HB.out.bb.low.size; simp; omega); (case hl => have := HN.out; have h7 := List.length_drop (l := prs) (i := k); rw [keysT_len]; omega); intro v1 w1 hR hb hg hat; clear hat; obtain ⟨T1, d1, hv⟩ := Kd.R_slice hR; rw [HLEN.out] at hv; subst hv; have hk1 := blk_grown (blk_alloc HB.out.bb.blk (.cells #[.int .u8 (x.toNat : Int)] 5 (0, 0))) hg (fun e => (HB.out.row.1 B (by rw [HT.out.1]; exact e.symm)) rfl); have hc1 : w1.cell? ⟨B, 256, none⟩ = some (f 256) := (blk_cell hk1 256).trans (row_get _ _ _ (by omega)); have hf1 : w1.frozen? ⟨B, 256, none⟩ = false := blk_frozen hk1 256; have HW1 := Lib.hid (And.intro hR (And.intro hb (And.intro hg hk1))); clear hR hb hg hk1))
          have HS : Hid (BB w (w1.setCell ⟨B, 256, none⟩ (.slice T1 (m + 1) d1)) B 257 106 (fun j => if j = 256 then .slice T1 (m + 1) d1 else f j) ∧ Kd.R Kd.string 9 (w1.setCell ⟨B, 256, none⟩ (.slice T1 (m + 1) d1)) w.heap.size (fun k => k ≠ B) (.slice T1 (m + 1) d1) (keysT ((x, y) :: prs.drop k)) ∧ T5 wr (w1.setCell ⟨B, 256, none⟩ (.slice T1 (m + 1) d1))) := by
            refine Lib.hid ⟨(BB.mk HW1.out.2.1 HW1.out.2.2.2 HB.out.bb.base).put 256 _, ?_, ?_⟩
            · have h := Kd.R_far (p := ⟨B, 256, none⟩) HW1.out.1 (fun _ h => h) (.slice T1 (m + 1) d1)
              rw [keysT_cons]
              exact h
            · obtain ⟨inner, ho⟩ := Kd.R_own (Kd.R_alloc HB.out.row (.cells #[.int .u8 (x.toNat : Int)] 5 (0, 0)))
              rw [HT.out.1] at ho
              exact (T5.below (below_alloc (Below.refl _ _) _)).trans ((T5.grown HW1.out.2.2.1 ho (by decide)).trans (T5.set HW1.out.2.2.2 (by decide) _))
          generalize w1.setCell ⟨B, 256, none⟩ (.slice T1 (m + 1) d1) = w2 at HS ⊢
          clear HW1 hc1 hf1 h256 hcv hcx hx hy
          have hcv := Go.Lib.run_convert_string_bytes (P := Tryz.prog) w2 9 30 5 y Tryz.underlying9 Tryz.underlying30 Tryz.underlying5
          have HB0 : Hid (Below w2.heap.size w2 (bytesWorld w2 5 y)) := Lib.hid ⟨rfl, rfl, rfl, by rw [bytesWorld_size]; omega, fun k hk => bytesWorld_at_old w2 5 y k hk⟩
          have HN0 : Hid (∃ cs fz, (bytesWorld w2 5 y).heap[w2.heap.size]? = some (.cells cs 5 fz) ∧ ∀ i (h : i < y.size), cs[i]? = some (.int .u8 (y[i].toNat : Int))) := Lib.hid ⟨_, _, bytesWorld_at_new w2 5 y, fun i hi => by
            have h1 := bytesWorld_cell w2 5 y i hi
            simp only [World.cell?, bytesWorld_at_new] at h1
            refine (show _ = _ from ?_).trans (h1.trans ?_)
            · rfl
            · rw [List.getD_eq_getElem?_getD, List.getElem?_eq_getElem (by simpa using hi)]; rfl⟩
          generalize grownCap w2 y.size 0 5 = cap at hcv
          generalize hw3 : bytesWorld w2 5 y = w3 at hcv HB0 HN0
          clear hw3
          have HBB : Hid (BB w w3 B 257 106 (fun j => if j = 256 then .slice T1 (m + 1) d1 else f j)) := Lib.hid ⟨HS.out.1.low.trans (HB0.out.mono HS.out.1.low.size), blk_below HS.out.1.blk HB0.out, HS.out.1.base⟩
          have hc3 : w3.cell? ⟨B, x.toNat, none⟩ = some (f x.toNat) := (HBB.out.cell x.toNat (by omega)).trans (congrArg some (if_neg (by omega)))
          have hf3 := HBB.out.frozen x.toNat
          go_wp2_with fail
          go_roundg (k - 1)
          case measure => have := HQ.out; omega
          case rel =>
            refine ⟨k - 1, by have := HQ.out; congr 1; omega, by have := HQ.out; omega, Nat.le_refl _, Lib.hid ⟨fun j => if j = x.toNat then .slice (some ⟨w2.heap.size, 0, none⟩) y.size cap else if j = 256 then .slice T1 (m + 1) d1 else f j, ?_⟩⟩
            rw [HD.out]
            refine ⟨HBB.out.put _ _, ?_, fun c hc => ?_⟩
            · simp only
              rw [if_neg (by omega)]
              show Kd.R _ _ _ _ _ (if True then _ else _) _
              rw [if_pos trivial]
              exact Kd.R_far (Kd.R_below HS.out.2.1 HB0.out) (fun _ h => h) _
            · have ht := T5.set (i := x.toNat) HBB.out.blk (by decide) (.slice (some ⟨w2.heap.size, 0, none⟩) y.size cap)
              simp only [repl]
              by_cases hcx : c = x.toNat
              · rw [if_pos hcx, if_pos hcx]
                obtain ⟨cs, fz, h1, h2⟩ := HN0.out
                exact ⟨_, _, cs, fz, rfl, ht _ _ _ h1, h2⟩
              · rw [if_neg hcx, if_neg (by omega), if_neg hcx]
                exact (HB.out.slot c hc).keep (HS.out.2.2.trans ((T5.below HB0.out).trans ht))
        · obtain rfl : k = 0 := by omega
          rw [List.drop_zero] at HB
          clear hk hkx hk0
          go_wp2_with fail
          go_ret
          exact ⟨B, f, rfl, HB.out⟩
end Go.Proofs.YtdcgcccaaooclaaGreatDoor.Rep
end
section
/- (*strings.byteReplacer).Replace: each byte by a table. -/
set_option linter.unusedVariables false
set_option linter.unusedSimpArgs false
set_option maxRecDepth 20000
namespace Go.Proofs.YtdcgcccaaooclaaGreatDoor.Rep
open Go.RowKit Go.Lib Go.Proofs.YtdcgcccaaooclaaGreatDoorW.PrintWords Go.Proofs.YtdcgcccaaooclaaGreatDoorW.PrintLast Go.Proofs.YtdcgcccaaooclaaGreatDoorW.PrintMore
/-- Each byte by a table. -/
def bmap (t : UInt8 → UInt8) (s : ByteArray) : ByteArray := ⟨(s.data.toList.map t).toArray⟩
theorem bmap_size (t : UInt8 → UInt8) (s : ByteArray) : (bmap t s).size = s.size := by
  show (s.data.toList.map t).toArray.size = s.data.size
  simp
/-- A row of a text's bytes, those ahead of a place by the table. -/
def BmR (t : UInt8 → UInt8) (s : ByteArray) (h i : Nat) (w : World) : Prop :=
  (∀ j (hj : j < s.size), w.cell? ⟨h, j, none⟩ = some (.int .u8 ((if j < i then t s[j] else s[j]).toNat : Int))) ∧ ∀ j, j < s.size → w.frozen? ⟨h, j, none⟩ = false
theorem bm_keep {t : UInt8 → UInt8} {s : ByteArray} {h i : Nat} {w : World} (hR : BmR t s h i w) (hl : ∀ hi : i < s.size, t s[i] = s[i]) : BmR t s h (i + 1) w := by
  refine ⟨fun j hj => ?_, hR.2⟩
  rw [hR.1 j hj]
  by_cases h1 : j < i
  · rw [if_pos h1, if_pos (by omega)]
  · rw [if_neg h1]
    by_cases h2 : j = i
    · subst h2
      rw [if_pos (by omega), hl hj]
    · rw [if_neg (by omega)]
theorem bm_set {t : UInt8 → UInt8} {s : ByteArray} {h i : Nat} {w : World} (hR : BmR t s h i w) (hi : i < s.size) : BmR t s h (i + 1) (w.setCell ⟨h, i, none⟩ (.int .u8 ((t s[i]).toNat : Int))) := by
  refine ⟨fun j hj => ?_, fun j hj => by rw [World.frozen?_setCell]; exact hR.2 j hj⟩
  by_cases h2 : j = i
  · subst h2
    rw [World.cell?_setCell_same _ _ _ (hR.1 j hj), if_pos (by omega)]
  · rw [World.cell?_setCell_other _ _ _ _ (by intro e; injection e with _ e2; exact h2 e2.symm), hR.1 j hj]
    by_cases h1 : j < i
    · rw [if_pos h1, if_pos (by omega)]
    · rw [if_neg h1, if_neg (by omega)]
theorem bm_done {t : UInt8 → UInt8} {s : ByteArray} {h : Nat} {w : World} (hR : BmR t s h s.size w) : Lib.Bytes w h 0 (bmap t s) := by
  intro i hi
  have hi' : i < s.size := by rwa [bmap_size] at hi
  rw [Nat.zero_add, hR.1 i hi', if_pos hi']
  have : (bmap t s)[i] = t s[i] := by
    show (s.data.toList.map t).toArray[i]'(by simpa using hi') = _
    rw [List.getElem_toArray, List.getElem_map]; rfl
  rw [this]
/-- A row of a text's bytes, as it is made. -/
theorem bm_new (t : UInt8 → UInt8) (s : ByteArray) (i : Nat) (w : World) (hi : ∀ j (hj : j < s.size), j < i → t s[j] = s[j]) : BmR t s w.heap.size i (bytesWorld w 5 s) := by
  refine ⟨fun j hj => ?_, fun j hj => ?_⟩
  · rw [bytesWorld_cell w 5 s j hj]
    have e : s.data.toList.getD j 0 = s[j] := by rw [List.getD_eq_getElem?_getD, List.getElem?_eq_getElem (by simpa using hj)]; rfl
    rw [e]
    split
    · rw [hi j hj ‹_›]
    · rfl
  · have h1 := bytesWorld_at_new w 5 s
    have h2 : s.size ≤ (bytesCells w 5 s).size := by unfold bytesCells; rw [Array.size_append, Array.size_map]; show s.data.size ≤ _; omega
    unfold World.frozen?
    rw [h1]
    simp only [Bool.and_eq_false_iff, decide_eq_false_iff_not]
    left
    omega
theorem BmR.below {t : UInt8 → UInt8} {s : ByteArray} {h i : Nat} {w w' : World} (hR : BmR t s h i w) (hb : Below w.heap.size w w') (hl : h < w.heap.size) : BmR t s h i w' :=
  ⟨fun j hj => (hb.cell (p := ⟨h, j, none⟩) hl).trans (hR.1 j hj), fun j hj => (hb.frozen (p := ⟨h, j, none⟩) hl).trans (hR.2 j hj)⟩
/-- The buffer: none yet, if nothing ahead was other; or a row. -/
def Buf (t : UInt8 → UInt8) (s : ByteArray) (w0 i : Nat) (w : World) (v : Value) : Prop :=
  (v = .slice none 0 0 ∧ ∀ j (hj : j < s.size), j < i → t s[j] = s[j]) ∨ ∃ g cc, v = .slice (some ⟨g, 0, none⟩) s.size cc ∧ w0 ≤ g ∧ BmR t s g i w
theorem Buf.keep {t : UInt8 → UInt8} {s : ByteArray} {w0 i : Nat} {w : World} {v : Value} (h : Buf t s w0 i w v) (hl : ∀ hi : i < s.size, t s[i] = s[i]) : Buf t s w0 (i + 1) w v := by
  rcases h with ⟨rfl, hk⟩ | ⟨g, cc, rfl, hg, hR⟩
  · refine .inl ⟨rfl, fun j hj h => ?_⟩
    by_cases h2 : j = i
    · subst h2; exact hl hj
    · exact hk j hj (by omega)
  · exact .inr ⟨g, cc, rfl, hg, bm_keep hR hl⟩
theorem bmap_id (t : UInt8 → UInt8) (s : ByteArray) (h : ∀ j (hj : j < s.size), t s[j] = s[j]) : bmap t s = s := by
  apply ByteArray.ext
  apply Array.toList_inj.1
  show (s.data.toList.map t).toArray.toList = _
  rw [List.toList_toArray]
  apply List.ext_getElem (by simp)
  intro j h1 h2
  rw [List.getElem_map]
  exact h j (by simpa using h2)
set_option maxHeartbeats 4000000 in
theorem replace_byte (B : Nat) (t : UInt8 → UInt8) (s : ByteArray) (hs : s.size ≤ 1000000000000) (w : World) (hT : ∀ y : UInt8, w.cell? ⟨B, y.toNat, none⟩ = some (.int .u8 ((t y).toNat : Int))) :
    Calls Tryz.prog 151 #[.pointer (some ⟨B, 0, none⟩), .string s] w fun e w' => e = .returned (.string (bmap t s)) ∧ Below w.heap.size w w' := by
  have HT := Lib.hid hT
  have HL := Lib.hid hs
  have q30 : ∀ (w : World) (a : Option Addr) (n c n' c' : Nat), (binOp .eql 30 (.slice a n c) (.slice none n' c')).run Tryz.prog w = .ok (.bool a.isNone) w := fun w a n c n' c' => Lib.run_eql_slice_nil w _ _ a n c n' c' Tryz.underlying30
  clear hT hs
  go_enter Tryz.func151, Tryz.ntmps151
  go_wp2_with fail
  go_loopg [5, 6, 7] s.size (fun kx s5 s6 s7 wr => ∃ i : Nat, s6 = .int .i64 (i : Int) ∧ i ≤ s.size ∧ s.size - i ≤ kx ∧ Hid (Below w.heap.size w wr ∧ Buf t s w.heap.size i wr s5))
  case atStart => exact ⟨0, rfl, by omega, by omega, Lib.hid ⟨Below.refl _ _, .inl ⟨rfl, fun j _ h => absurd h (by omega)⟩⟩⟩
  case round =>
    obtain ⟨i, rfl, hi, hkx, HW⟩ := hrel
    by_cases hlt : i < s.size
    · obtain ⟨y, hy⟩ : ∃ y, y = s[i] := ⟨_, rfl⟩
      have hcB : wr.cell? ⟨B, y.toNat, none⟩ = some (.int .u8 ((t y).toNat : Int)) := (HW.out.1.cell (p := ⟨B, y.toNat, none⟩) (World.block_lt_of_cell? w _ (HT.out y))).trans (HT.out y)
      have hsi : ∀ h : i < s.size, s[i] = y := fun _ => hy.symm
      have hy8 : y.toNat < 256 := y.toNat_lt
      have hy9 : (y.toNat : Int) < 256 := by omega
      have HI := Lib.hid (And.intro hlt (And.intro hkx hsi))
      have p2 := eq_true (show (0 : Int) ≤ (i : Int) by omega)
      have q2 := eq_true (show (i : Int) < (s.size : Int) by omega)
      have c1 : decide ((i : Int) < (s.size : Int)) = true := decide_eq_true (by omega)
      have p5 : wrap64 ((i : Int) + 1) = (i : Int) + 1 := Go.IntWalk.wrap64_in _ (by have := HL.out; omega)
      clear hi hkx
      by_cases hty : t y = y
      · have hne : (((t y).toNat : Int) != (y.toNat : Int)) = false := by rw [hty]; simp
        have HTY := Lib.hid hty
        clear hty hy
        go_wp2_with fail
        go_roundg (s.size - (i + 1))
        case measure => have := HI.out; omega
        case rel => exact ⟨i + 1, by rw [p5]; rfl, by have := HI.out; omega, Nat.le_refl _, Lib.hid ⟨HW.out.1, HW.out.2.keep (fun h => by rw [HI.out.2.2 h]; exact HTY.out)⟩⟩
      · have hne : (((t y).toNat : Int) != (y.toNat : Int)) = true := bne_iff_ne.2 (fun e => hty (UInt8.toNat_inj.1 (by omega)))
        clear hty hy
        rcases HW.out with ⟨hb, ⟨rfl, hk⟩ | ⟨g, cc, rfl, hg, hR⟩⟩
        · have hcv := Go.Lib.run_convert_string_bytes (P := Tryz.prog) wr 9 30 5 s Tryz.underlying9 Tryz.underlying30 Tryz.underlying5
          have hB0 : Below wr.heap.size wr (bytesWorld wr 5 s) := ⟨rfl, rfl, rfl, by rw [bytesWorld_size]; omega, fun k hk => bytesWorld_at_old wr 5 s k hk⟩
          have hR0 := bm_new t s i wr hk
          have hsz := bytesWorld_size wr 5 s
          generalize grownCap wr s.size 0 5 = cc at hcv
          generalize bytesWorld wr 5 s = W1 at hcv hB0 hR0 hsz
          have hcB1 : W1.cell? ⟨B, y.toNat, none⟩ = some (.int .u8 ((t y).toNat : Int)) := (hB0.cell (p := ⟨B, y.toNat, none⟩) (World.block_lt_of_cell? wr _ hcB)).trans hcB
          have hci := hR0.1 i HI.out.1
          have hfi := hR0.2 i HI.out.1
          rw [if_neg (Nat.lt_irrefl i), hsi HI.out.1] at hci
          have HR1 := Lib.hid (And.intro hR0 (hb.trans (hB0.mono hb.size)))
          have HSZ := Lib.hid (And.intro hb.size hsz)
          clear hb hk hB0 hR0 hsz
          go_wp2_with fail
          go_roundg (s.size - (i + 1))
          case measure => have := HI.out; omega
          case rel =>
            refine ⟨i + 1, by rw [p5]; rfl, by have := HI.out; omega, Nat.le_refl _, Lib.hid ⟨HR1.out.2.setCell HSZ.out.1 _, .inr ⟨_, _, rfl, HSZ.out.1, ?_⟩⟩⟩
            have h := bm_set HR1.out.1 HI.out.1
            rw [HI.out.2.2 HI.out.1] at h
            exact h
        · have hci := hR.1 i HI.out.1
          have hfi := hR.2 i HI.out.1
          rw [if_neg (Nat.lt_irrefl i), hsi HI.out.1] at hci
          have HR1 := Lib.hid (And.intro hR (And.intro hb hg))
          clear hb hR hg
          go_wp2_with fail
          go_roundg (s.size - (i + 1))
          case measure => have := HI.out; omega
          case rel =>
            refine ⟨i + 1, by rw [p5]; rfl, by have := HI.out; omega, Nat.le_refl _, Lib.hid ⟨HR1.out.2.1.setCell HR1.out.2.2 _, .inr ⟨_, _, rfl, HR1.out.2.2, ?_⟩⟩⟩
            have h := bm_set HR1.out.1 HI.out.1
            rw [HI.out.2.2 HI.out.1] at h
            exact h
    · obtain rfl : i = s.size := by omega
      have c1 : decide ((s.size : Int) < (s.size : Int)) = false := decide_eq_false (by omega)
      clear hi hkx hlt
      rcases HW.out with ⟨hb, ⟨rfl, hk⟩ | ⟨g, cc, rfl, hg, hR⟩⟩
      · have HF := Lib.hid (And.intro (bmap_id t s (fun j hj => hk j hj hj)) hb)
        clear hb hk
        go_wp2_with fail
        go_ret
        exact ⟨congrArg (fun z => Ending.returned (.string z)) HF.out.1.symm, HF.out.2⟩
      · have hcw := Lib.run_convert_whole (P := Tryz.prog) wr 30 5 9 Tryz.underlying30 Tryz.underlying5 Tryz.underlying9 g 0 (bmap t s) (bm_done hR) cc
        rw [bmap_size] at hcw
        have HF := Lib.hid hb
        clear hb hR hg
        go_wp2_with fail
        go_ret
        exact ⟨rfl, HF.out⟩
end Go.Proofs.YtdcgcccaaooclaaGreatDoor.Rep
end
section
/- internal/strconv.ParseUint at bases 10 and 16, of hexadecimal digits alone. -/
set_option linter.unusedVariables false
set_option linter.unusedSimpArgs false
set_option maxRecDepth 20000
namespace Go.Proofs.YtdcgcccaaooclaaGreatDoor.Rep
open Go.RowKit Go.Lib Go.Proofs.YtdcgcccaaooclaaGreatDoorW.PrintWords Go.Proofs.YtdcgcccaaooclaaGreatDoorW.PrintLast Go.Proofs.YtdcgcccaaooclaaGreatDoorW.PrintMore
/-- A digit's worth. -/
def digV (c : UInt8) : Nat := if c.toNat ≤ 57 then c.toNat - 48 else (c ||| 32).toNat - 87
def hexB (c : UInt8) : Bool := (decide (48 ≤ c.toNat) && decide (c.toNat ≤ 57)) || ((decide (65 ≤ c.toNat) && decide (c.toNat ≤ 70)) || (decide (97 ≤ c.toNat) && decide (c.toNat ≤ 102)))
inductive NumR where
  | ok (n : Nat)
  | syn
  | rng
def maxU : Nat := 18446744073709551616
def cutU (b : Nat) : Nat := (maxU - 1) / b + 1
def goU (b : Nat) : List UInt8 → Nat → NumR
  | [], n => .ok n
  | c :: l, n => if b ≤ digV c then .syn else if cutU b ≤ n then .rng else if maxU ≤ n * b + digV c then .rng else goU b l (n * b + digV c)
/-- What ParseUint answers. -/
def ansU : NumR → Value
  | .ok n => .tuple #[.int .u64 (n : Int), .nilIface]
  | .syn => .tuple #[.int .u64 0, .iface 115 (.int .i64 2)]
  | .rng => .tuple #[.int .u64 ((maxU - 1 : Nat) : Int), .iface 115 (.int .i64 1)]
theorem hex_or (c : UInt8) (h : hexB c = true) (h2 : ¬ c.toNat ≤ 57) : bits BinOp.or IntKind.u8 (c.toNat : Int) 32 = (digV c : Int) + 87 ∧ 10 ≤ digV c ∧ digV c ≤ 15 := by
  have H : ∀ n : Fin 256, hexB (UInt8.ofNat n.val) = true → ¬ n.val ≤ 57 → bits BinOp.or IntKind.u8 (n.val : Int) 32 = (digV (UInt8.ofNat n.val) : Int) + 87 ∧ 10 ≤ digV (UInt8.ofNat n.val) ∧ digV (UInt8.ofNat n.val) ≤ 15 := by decide +kernel
  have h1 := H ⟨c.toNat, c.toNat_lt⟩
  simp only [UInt8.ofNat_toNat] at h1
  exact h1 h h2
theorem u64_over (x : Int) (h : 18446744073709551616 ≤ x ∧ x < 36893488147419103232) : IntKind.u64.wrap x = x - 18446744073709551616 := by
  simp [IntKind.wrap, IntKind.bits, IntKind.signed]
  omega
theorem goU_drop (b : Nat) (l : List UInt8) (i n : Nat) (hi : i < l.length) : goU b (l.drop i) n = if b ≤ digV l[i] then .syn else if cutU b ≤ n then .rng else if maxU ≤ n * b + digV l[i] then .rng else goU b (l.drop (i + 1)) (n * b + digV l[i]) := by
  rw [List.drop_eq_getElem_cons hi]; rfl
theorem cut_le (b n v : Nat) (hb : b = 10 ∨ b = 16) (hn : n < cutU b) (hv : v < b) : n * b ≤ 18446744073709551615 := by
  rcases hb with rfl | rfl
  · have : n < 1844674407370955162 := hn
    omega
  · have : n < 1152921504606846976 := hn
    omega
set_option maxHeartbeats 4000000 in
theorem parseUint10 (s : ByteArray) (hs : s.size ≤ 1000000000) (h0 : 0 < s.size) (hh : ∀ c ∈ s.data.toList, hexB c = true) (w : World) :
    Calls Tryz.prog 71 #[.string s, .int .i64 10, .int .i64 64] w fun e w' => e = .returned (ansU (goU 10 s.data.toList 0)) ∧ Below w.heap.size w w' := by
  have hse : s.toList ≠ [] := by
    intro h
    rw [ByteArray.toList_eq] at h
    have : s.data.toList.length = s.size := by rw [Array.length_toList]; rfl
    rw [h] at this
    simp at this
    omega
  have hse2 : (s.toList == ([] : List UInt8)) = false := by cases h : s.toList with | nil => exact absurd h hse | cons a l => rfl
  have hse3 : s.toList.isEmpty = false := by cases h : s.toList with | nil => exact absurd h hse | cons a l => rfl
  have HH := Lib.hid hh
  have HS := Lib.hid (And.intro hs h0)
  clear hh hs h0 hse
  all_goals
    obtain ⟨R, hR⟩ : ∃ R, goU 10 s.data.toList 0 = R := ⟨_, rfl⟩
    rw [hR]
    have HQ := Lib.hid hR
    clear hR
    go_enter Tryz.func71, Tryz.ntmps71
    have hcv := Go.Lib.run_convert_string_bytes (P := Tryz.prog) w 9 30 5 s Tryz.underlying9 Tryz.underlying30 Tryz.underlying5
    have hB0 : Below w.heap.size w (bytesWorld w 5 s) := ⟨rfl, rfl, rfl, by rw [bytesWorld_size]; omega, fun k hk => bytesWorld_at_old w 5 s k hk⟩
    have hR0 := bm_new id s 0 w (fun j hj h => rfl)
    generalize grownCap w s.size 0 5 = cc at hcv
    generalize bytesWorld w 5 s = W1 at hcv hB0 hR0
    have HB0 := Lib.hid hB0
    have HR0 := Lib.hid hR0
    clear hB0 hR0
    go_wp2_with fail
    clear hcv
    have hmx : IntKind.u64.wrap (IntKind.u64.wrap 18446744073709551616 - 1) = 18446744073709551615 := by decide
    rw [hmx]
    clear hmx
    obtain ⟨K, hK⟩ : ∃ K : Int, K = 1844674407370955162 := ⟨_, rfl⟩
    rw [← hK]
    obtain ⟨X, hX⟩ : ∃ X : Int, X = 18446744073709551615 := ⟨_, rfl⟩
    rw [← hX]
    have HK := Lib.hid (And.intro hK hX)
    clear hK hX
    go_loopg [12, 13, 15, 16, 17, 101] s.size (fun kx s12 s13 s15 s16 s17 s101 wr => ∃ i n : Nat, s12 = .bool false ∧ s101 = .int .i64 (i : Int) ∧ i ≤ s.size ∧ s.size - i ≤ kx ∧ s13 = .int .u64 (n : Int) ∧ W1 = wr ∧ Hid (goU 10 (s.data.toList.drop i) n = R))
    case atStart => exact ⟨0, 0, rfl, rfl, by omega, by omega, rfl, rfl, HQ⟩
    case round =>
      clear HQ
      obtain ⟨i, n, rfl, rfl, hi, hkx, rfl, rfl, HQ⟩ := hrel
      by_cases hlt : i < s.size
      · have hc := HR0.out.1 i hlt
        rw [if_neg (by omega)] at hc
        obtain ⟨c, hcc⟩ : ∃ c, c = s[i] := ⟨_, rfl⟩
        rw [← hcc] at hc
        have hil : i < s.data.toList.length := by simpa using hlt
        have hst := goU_drop 10 s.data.toList i n hil
        rw [show s.data.toList[i] = c from hcc.symm] at hst
        have hhx : hexB c = true := HH.out c (by rw [hcc]; exact List.getElem_mem hil)
        have HI := Lib.hid (And.intro hlt (And.intro hkx hst))
        have hc8 : (c.toNat : Int) < 256 := by have := c.toNat_lt; omega
        have q1 := eq_true (show (0 : Int) ≤ (i : Int) by omega)
        have q2 := eq_true (show (i : Int) < (s.size : Int) by omega)
        have c1 : decide ((i : Int) < (s.size : Int)) = true := decide_eq_true (by omega)
        obtain ⟨v, hv⟩ : ∃ v, v = digV c := ⟨_, rfl⟩
        have hv16 : v ≤ 15 := by
          rw [hv]
          by_cases h57 : c.toNat ≤ 57
          · unfold digV; rw [if_pos h57]; omega
          · exact (hex_or c hhx h57).2.2
        have hlo : (48 : Int) ≤ (c.toNat : Int) := by
          simp only [hexB, Bool.or_eq_true, Bool.and_eq_true, decide_eq_true_eq] at hhx
          omega
        have h95 : ((c.toNat : Int) == 95) = false := by
          simp only [hexB, Bool.or_eq_true, Bool.and_eq_true, decide_eq_true_eq] at hhx
          exact beq_eq_false_iff_ne.2 (by omega)
        have HV := Lib.hid hv
        have HHX := Lib.hid hhx
        have hlo2 : decide ((48 : Int) ≤ (c.toNat : Int)) = true := decide_eq_true hlo
        clear hcc hil hst hhx hi hkx hlt hv
        by_cases h57 : (c.toNat : Int) ≤ 57
        · have h57d : decide ((c.toNat : Int) ≤ 57) = true := decide_eq_true h57
          have EV : Hid ((c.toNat : Int) - 48 = (v : Int)) := Lib.hid (by rw [HV.out]; unfold digV; rw [if_pos (by omega)]; omega)
          go_upto_region 46 with (fail)
          rw [EV.out]
          clear EV h57 h57d h95 hlo hlo2
          by_cases hvb : 10 ≤ v
          · have t1 : decide ((10 : Int) ≤ (v : Int)) = true := decide_eq_true (by omega)
            have HF := Lib.hid (show NumR.syn = R by rw [← HQ.out, HI.out.2.2, if_pos (by rw [← HV.out]; exact hvb)])
            clear hvb
            go_wp2_with fail
            go_ret2
            exact ⟨by rw [← HF.out]; rfl, HB0.out⟩
          · have t1 : decide ((10 : Int) ≤ (v : Int)) = false := decide_eq_false (by omega)
            have HVB := Lib.hid hvb
            clear hvb
            by_cases hk : K ≤ (n : Int)
            · have t2 : decide (K ≤ (n : Int)) = true := decide_eq_true hk
              have HF := Lib.hid (show NumR.rng = R by rw [← HQ.out, HI.out.2.2, if_neg (by rw [← HV.out]; exact HVB.out), if_pos (by have h := HK.out.1; have : cutU 10 = 1844674407370955162 := rfl; omega)])
              clear hk
              go_wp2_with fail
              go_ret2
              exact ⟨by rw [← HF.out, HK.out.2]; rfl, HB0.out⟩
            · have t2 : decide (K ≤ (n : Int)) = false := decide_eq_false hk
              have hnc : n < cutU 10 := by have h := HK.out.1; have : cutU 10 = 1844674407370955162 := rfl; omega
              have hnb : n * 10 ≤ 18446744073709551615 := cut_le 10 n v (by decide) hnc (by have := HVB.out; omega)
              have E1 : Hid (IntKind.u64.wrap ((n : Int) * 10) = (n : Int) * 10) := Lib.hid (Go.IntWalk.u64_in _ (by omega))
              by_cases hm : 18446744073709551616 ≤ n * 10 + v
              · have E2 : Hid (IntKind.u64.wrap ((n : Int) * 10 + (v : Int)) = (n : Int) * 10 + (v : Int) - 18446744073709551616) := Lib.hid (u64_over _ (by omega))
                have T3 : Hid (decide ((n : Int) * 10 + (v : Int) - 18446744073709551616 < (n : Int) * 10) = true) := Lib.hid (decide_eq_true (by omega))
                have HF := Lib.hid (show NumR.rng = R by rw [← HQ.out, HI.out.2.2, if_neg (by rw [← HV.out]; exact HVB.out), if_neg (by omega), if_pos (by rw [← HV.out]; exact hm)])
                clear hk hnc hnb hm
                have e1 := E1.out
                have e2 := E2.out
                have t3 := T3.out
                go_wp2_with fail
                go_ret2
                exact ⟨by rw [← HF.out, HK.out.2]; rfl, HB0.out⟩
              · have E2 : Hid (IntKind.u64.wrap ((n : Int) * 10 + (v : Int)) = (n : Int) * 10 + (v : Int)) := Lib.hid (Go.IntWalk.u64_in _ (by omega))
                have T3 : Hid (decide ((n : Int) * 10 + (v : Int) < (n : Int) * 10) = false ∧ decide (X < (n : Int) * 10 + (v : Int)) = false) := Lib.hid ⟨decide_eq_false (by omega), decide_eq_false (by rw [HK.out.2]; omega)⟩
                have HF := Lib.hid (show goU 10 (s.data.toList.drop (i + 1)) (n * 10 + v) = R by rw [← HQ.out, HI.out.2.2, if_neg (by rw [← HV.out]; exact HVB.out), if_neg (by omega), if_neg (by rw [← HV.out]; exact hm), ← HV.out])
                have hp5 := Go.IntWalk.wrap64_in ((i : Int) + 1) (by have := HI.out.1; have := HS.out.1; omega)
                have P5 : Hid (wrap64 ((i : Int) + 1) = (i : Int) + 1) := Lib.hid hp5
                clear hk hnc hnb hm hp5
                have e1 := E1.out
                have e2 := E2.out
                have t3 := T3.out.1
                have t4 := T3.out.2
                go_wp2_with fail
                clear e1 e2 t3 t4
                go_roundg (s.size - (i + 1))
                case measure => have := HI.out.1; have := HI.out.2.1; omega
                case rel => exact ⟨i + 1, n * 10 + v, rfl, by rw [P5.out]; rfl, by have := HI.out.1; omega, Nat.le_refl _, by congr 1, rfl, HF⟩
        · have h57d : decide ((c.toNat : Int) ≤ 57) = false := decide_eq_false h57
          have hv10 : 10 ≤ v := by rw [HV.out]; exact (hex_or c HHX.out (by omega)).2.1
          have hlw : Hid (Calls Tryz.prog 88 #[.int .u8 (c.toNat : Int)] W1 fun e w' => e = .returned (.int .u8 ((v : Int) + 87)) ∧ w' = W1) := Lib.hid (by have h := Tryz.internal_strconv_lower (c.toNat : Int) W1; rw [(hex_or c HHX.out (by omega)).1, ← HV.out] at h; exact h)
          have d97 : decide ((97 : Int) ≤ (v : Int) + 87) = true := decide_eq_true (by omega)
          have d122 : decide ((v : Int) + 87 ≤ 122) = true := decide_eq_true (by omega)
          go_upto_region 46 with (first | (go_at_call 88; refine hlw.out.mono ?_; rintro e w' ⟨rfl, rfl⟩))
          rw [show ((v : Int) + 87 - 97 + 10) = (v : Int) by omega]
          clear hlw d97 d122 h57 h57d h95 hlo hlo2 hv10
          by_cases hvb : 10 ≤ v
          · have t1 : decide ((10 : Int) ≤ (v : Int)) = true := decide_eq_true (by omega)
            have HF := Lib.hid (show NumR.syn = R by rw [← HQ.out, HI.out.2.2, if_pos (by rw [← HV.out]; exact hvb)])
            clear hvb
            go_wp2_with fail
            go_ret2
            exact ⟨by rw [← HF.out]; rfl, HB0.out⟩
          · have t1 : decide ((10 : Int) ≤ (v : Int)) = false := decide_eq_false (by omega)
            have HVB := Lib.hid hvb
            clear hvb
            by_cases hk : K ≤ (n : Int)
            · have t2 : decide (K ≤ (n : Int)) = true := decide_eq_true hk
              have HF := Lib.hid (show NumR.rng = R by rw [← HQ.out, HI.out.2.2, if_neg (by rw [← HV.out]; exact HVB.out), if_pos (by have h := HK.out.1; have : cutU 10 = 1844674407370955162 := rfl; omega)])
              clear hk
              go_wp2_with fail
              go_ret2
              exact ⟨by rw [← HF.out, HK.out.2]; rfl, HB0.out⟩
            · have t2 : decide (K ≤ (n : Int)) = false := decide_eq_false hk
              have hnc : n < cutU 10 := by have h := HK.out.1; have : cutU 10 = 1844674407370955162 := rfl; omega
              have hnb : n * 10 ≤ 18446744073709551615 := cut_le 10 n v (by decide) hnc (by have := HVB.out; omega)
              have E1 : Hid (IntKind.u64.wrap ((n : Int) * 10) = (n : Int) * 10) := Lib.hid (Go.IntWalk.u64_in _ (by omega))
              by_cases hm : 18446744073709551616 ≤ n * 10 + v
              · have E2 : Hid (IntKind.u64.wrap ((n : Int) * 10 + (v : Int)) = (n : Int) * 10 + (v : Int) - 18446744073709551616) := Lib.hid (u64_over _ (by omega))
                have T3 : Hid (decide ((n : Int) * 10 + (v : Int) - 18446744073709551616 < (n : Int) * 10) = true) := Lib.hid (decide_eq_true (by omega))
                have HF := Lib.hid (show NumR.rng = R by rw [← HQ.out, HI.out.2.2, if_neg (by rw [← HV.out]; exact HVB.out), if_neg (by omega), if_pos (by rw [← HV.out]; exact hm)])
                clear hk hnc hnb hm
                have e1 := E1.out
                have e2 := E2.out
                have t3 := T3.out
                go_wp2_with fail
                go_ret2
                exact ⟨by rw [← HF.out, HK.out.2]; rfl, HB0.out⟩
              · have E2 : Hid (IntKind.u64.wrap ((n : Int) * 10 + (v : Int)) = (n : Int) * 10 + (v : Int)) := Lib.hid (Go.IntWalk.u64_in _ (by omega))
                have T3 : Hid (decide ((n : Int) * 10 + (v : Int) < (n : Int) * 10) = false ∧ decide (X < (n : Int) * 10 + (v : Int)) = false) := Lib.hid ⟨decide_eq_false (by omega), decide_eq_false (by rw [HK.out.2]; omega)⟩
                have HF := Lib.hid (show goU 10 (s.data.toList.drop (i + 1)) (n * 10 + v) = R by rw [← HQ.out, HI.out.2.2, if_neg (by rw [← HV.out]; exact HVB.out), if_neg (by omega), if_neg (by rw [← HV.out]; exact hm), ← HV.out])
                have hp5 := Go.IntWalk.wrap64_in ((i : Int) + 1) (by have := HI.out.1; have := HS.out.1; omega)
                have P5 : Hid (wrap64 ((i : Int) + 1) = (i : Int) + 1) := Lib.hid hp5
                clear hk hnc hnb hm hp5
                have e1 := E1.out
                have e2 := E2.out
                have t3 := T3.out.1
                have t4 := T3.out.2
                go_wp2_with fail
                clear e1 e2 t3 t4
                go_roundg (s.size - (i + 1))
                case measure => have := HI.out.1; have := HI.out.2.1; omega
                case rel => exact ⟨i + 1, n * 10 + v, rfl, by rw [P5.out]; rfl, by have := HI.out.1; omega, Nat.le_refl _, by congr 1, rfl, HF⟩
      · obtain rfl : i = s.size := by omega
        have c1 : decide ((s.size : Int) < (s.size : Int)) = false := decide_eq_false (by omega)
        have HF := Lib.hid (show NumR.ok n = R by rw [← HQ.out, List.drop_of_length_le (by rw [Array.length_toList]; exact Nat.le_refl _)]; rfl)
        clear hi hkx hlt
        go_wp2_with fail
        go_ret2
        exact ⟨by rw [← HF.out]; rfl, HB0.out⟩
set_option maxHeartbeats 4000000 in
theorem parseUint16 (s : ByteArray) (hs : s.size ≤ 1000000000) (h0 : 0 < s.size) (hh : ∀ c ∈ s.data.toList, hexB c = true) (w : World) :
    Calls Tryz.prog 71 #[.string s, .int .i64 16, .int .i64 64] w fun e w' => e = .returned (ansU (goU 16 s.data.toList 0)) ∧ Below w.heap.size w w' := by
  have hse : s.toList ≠ [] := by
    intro h
    rw [ByteArray.toList_eq] at h
    have : s.data.toList.length = s.size := by rw [Array.length_toList]; rfl
    rw [h] at this
    simp at this
    omega
  have hse2 : (s.toList == ([] : List UInt8)) = false := by cases h : s.toList with | nil => exact absurd h hse | cons a l => rfl
  have hse3 : s.toList.isEmpty = false := by cases h : s.toList with | nil => exact absurd h hse | cons a l => rfl
  have HH := Lib.hid hh
  have HS := Lib.hid (And.intro hs h0)
  clear hh hs h0 hse
  all_goals
    obtain ⟨R, hR⟩ : ∃ R, goU 16 s.data.toList 0 = R := ⟨_, rfl⟩
    rw [hR]
    have HQ := Lib.hid hR
    clear hR
    go_enter Tryz.func71, Tryz.ntmps71
    have hcv := Go.Lib.run_convert_string_bytes (P := Tryz.prog) w 9 30 5 s Tryz.underlying9 Tryz.underlying30 Tryz.underlying5
    have hB0 : Below w.heap.size w (bytesWorld w 5 s) := ⟨rfl, rfl, rfl, by rw [bytesWorld_size]; omega, fun k hk => bytesWorld_at_old w 5 s k hk⟩
    have hR0 := bm_new id s 0 w (fun j hj h => rfl)
    generalize grownCap w s.size 0 5 = cc at hcv
    generalize bytesWorld w 5 s = W1 at hcv hB0 hR0
    have HB0 := Lib.hid hB0
    have HR0 := Lib.hid hR0
    clear hB0 hR0
    go_wp2_with fail
    clear hcv
    have hmx : IntKind.u64.wrap (IntKind.u64.wrap 18446744073709551616 - 1) = 18446744073709551615 := by decide
    rw [hmx]
    clear hmx
    obtain ⟨K, hK⟩ : ∃ K : Int, K = 1152921504606846976 := ⟨_, rfl⟩
    rw [← hK]
    obtain ⟨X, hX⟩ : ∃ X : Int, X = 18446744073709551615 := ⟨_, rfl⟩
    rw [← hX]
    have HK := Lib.hid (And.intro hK hX)
    clear hK hX
    go_loopg [12, 13, 15, 16, 17, 101] s.size (fun kx s12 s13 s15 s16 s17 s101 wr => ∃ i n : Nat, s12 = .bool false ∧ s101 = .int .i64 (i : Int) ∧ i ≤ s.size ∧ s.size - i ≤ kx ∧ s13 = .int .u64 (n : Int) ∧ W1 = wr ∧ Hid (goU 16 (s.data.toList.drop i) n = R))
    case atStart => exact ⟨0, 0, rfl, rfl, by omega, by omega, rfl, rfl, HQ⟩
    case round =>
      clear HQ
      obtain ⟨i, n, rfl, rfl, hi, hkx, rfl, rfl, HQ⟩ := hrel
      by_cases hlt : i < s.size
      · have hc := HR0.out.1 i hlt
        rw [if_neg (by omega)] at hc
        obtain ⟨c, hcc⟩ : ∃ c, c = s[i] := ⟨_, rfl⟩
        rw [← hcc] at hc
        have hil : i < s.data.toList.length := by simpa using hlt
        have hst := goU_drop 16 s.data.toList i n hil
        rw [show s.data.toList[i] = c from hcc.symm] at hst
        have hhx : hexB c = true := HH.out c (by rw [hcc]; exact List.getElem_mem hil)
        have HI := Lib.hid (And.intro hlt (And.intro hkx hst))
        have hc8 : (c.toNat : Int) < 256 := by have := c.toNat_lt; omega
        have q1 := eq_true (show (0 : Int) ≤ (i : Int) by omega)
        have q2 := eq_true (show (i : Int) < (s.size : Int) by omega)
        have c1 : decide ((i : Int) < (s.size : Int)) = true := decide_eq_true (by omega)
        obtain ⟨v, hv⟩ : ∃ v, v = digV c := ⟨_, rfl⟩
        have hv16 : v ≤ 15 := by
          rw [hv]
          by_cases h57 : c.toNat ≤ 57
          · unfold digV; rw [if_pos h57]; omega
          · exact (hex_or c hhx h57).2.2
        have hlo : (48 : Int) ≤ (c.toNat : Int) := by
          simp only [hexB, Bool.or_eq_true, Bool.and_eq_true, decide_eq_true_eq] at hhx
          omega
        have h95 : ((c.toNat : Int) == 95) = false := by
          simp only [hexB, Bool.or_eq_true, Bool.and_eq_true, decide_eq_true_eq] at hhx
          exact beq_eq_false_iff_ne.2 (by omega)
        have HV := Lib.hid hv
        have HHX := Lib.hid hhx
        have hlo2 : decide ((48 : Int) ≤ (c.toNat : Int)) = true := decide_eq_true hlo
        clear hcc hil hst hhx hi hkx hlt hv
        by_cases h57 : (c.toNat : Int) ≤ 57
        · have h57d : decide ((c.toNat : Int) ≤ 57) = true := decide_eq_true h57
          have EV : Hid ((c.toNat : Int) - 48 = (v : Int)) := Lib.hid (by rw [HV.out]; unfold digV; rw [if_pos (by omega)]; omega)
          go_upto_region 46 with (fail)
          rw [EV.out]
          clear EV h57 h57d h95 hlo hlo2
          by_cases hvb : 16 ≤ v
          · have t1 : decide ((16 : Int) ≤ (v : Int)) = true := decide_eq_true (by omega)
            have HF := Lib.hid (show NumR.syn = R by rw [← HQ.out, HI.out.2.2, if_pos (by rw [← HV.out]; exact hvb)])
            clear hvb
            go_wp2_with fail
            go_ret2
            exact ⟨by rw [← HF.out]; rfl, HB0.out⟩
          · have t1 : decide ((16 : Int) ≤ (v : Int)) = false := decide_eq_false (by omega)
            have HVB := Lib.hid hvb
            clear hvb
            by_cases hk : K ≤ (n : Int)
            · have t2 : decide (K ≤ (n : Int)) = true := decide_eq_true hk
              have HF := Lib.hid (show NumR.rng = R by rw [← HQ.out, HI.out.2.2, if_neg (by rw [← HV.out]; exact HVB.out), if_pos (by have h := HK.out.1; have : cutU 16 = 1152921504606846976 := rfl; omega)])
              clear hk
              go_wp2_with fail
              go_ret2
              exact ⟨by rw [← HF.out, HK.out.2]; rfl, HB0.out⟩
            · have t2 : decide (K ≤ (n : Int)) = false := decide_eq_false hk
              have hnc : n < cutU 16 := by have h := HK.out.1; have : cutU 16 = 1152921504606846976 := rfl; omega
              have hnb : n * 16 ≤ 18446744073709551615 := cut_le 16 n v (by decide) hnc (by have := HVB.out; omega)
              have E1 : Hid (IntKind.u64.wrap ((n : Int) * 16) = (n : Int) * 16) := Lib.hid (Go.IntWalk.u64_in _ (by omega))
              by_cases hm : 18446744073709551616 ≤ n * 16 + v
              · have E2 : Hid (IntKind.u64.wrap ((n : Int) * 16 + (v : Int)) = (n : Int) * 16 + (v : Int) - 18446744073709551616) := Lib.hid (u64_over _ (by omega))
                have T3 : Hid (decide ((n : Int) * 16 + (v : Int) - 18446744073709551616 < (n : Int) * 16) = true) := Lib.hid (decide_eq_true (by omega))
                have HF := Lib.hid (show NumR.rng = R by rw [← HQ.out, HI.out.2.2, if_neg (by rw [← HV.out]; exact HVB.out), if_neg (by omega), if_pos (by rw [← HV.out]; exact hm)])
                clear hk hnc hnb hm
                have e1 := E1.out
                have e2 := E2.out
                have t3 := T3.out
                go_wp2_with fail
                go_ret2
                exact ⟨by rw [← HF.out, HK.out.2]; rfl, HB0.out⟩
              · have E2 : Hid (IntKind.u64.wrap ((n : Int) * 16 + (v : Int)) = (n : Int) * 16 + (v : Int)) := Lib.hid (Go.IntWalk.u64_in _ (by omega))
                have T3 : Hid (decide ((n : Int) * 16 + (v : Int) < (n : Int) * 16) = false ∧ decide (X < (n : Int) * 16 + (v : Int)) = false) := Lib.hid ⟨decide_eq_false (by omega), decide_eq_false (by rw [HK.out.2]; omega)⟩
                have HF := Lib.hid (show goU 16 (s.data.toList.drop (i + 1)) (n * 16 + v) = R by rw [← HQ.out, HI.out.2.2, if_neg (by rw [← HV.out]; exact HVB.out), if_neg (by omega), if_neg (by rw [← HV.out]; exact hm), ← HV.out])
                have hp5 := Go.IntWalk.wrap64_in ((i : Int) + 1) (by have := HI.out.1; have := HS.out.1; omega)
                have P5 : Hid (wrap64 ((i : Int) + 1) = (i : Int) + 1) := Lib.hid hp5
                clear hk hnc hnb hm hp5
                have e1 := E1.out
                have e2 := E2.out
                have t3 := T3.out.1
                have t4 := T3.out.2
                go_wp2_with fail
                clear e1 e2 t3 t4
                go_roundg (s.size - (i + 1))
                case measure => have := HI.out.1; have := HI.out.2.1; omega
                case rel => exact ⟨i + 1, n * 16 + v, rfl, by rw [P5.out]; rfl, by have := HI.out.1; omega, Nat.le_refl _, by congr 1, rfl, HF⟩
        · have h57d : decide ((c.toNat : Int) ≤ 57) = false := decide_eq_false h57
          have hv10 : 10 ≤ v := by rw [HV.out]; exact (hex_or c HHX.out (by omega)).2.1
          have hlw : Hid (Calls Tryz.prog 88 #[.int .u8 (c.toNat : Int)] W1 fun e w' => e = .returned (.int .u8 ((v : Int) + 87)) ∧ w' = W1) := Lib.hid (by have h := Tryz.internal_strconv_lower (c.toNat : Int) W1; rw [(hex_or c HHX.out (by omega)).1, ← HV.out] at h; exact h)
          have d97 : decide ((97 : Int) ≤ (v : Int) + 87) = true := decide_eq_true (by omega)
          have d122 : decide ((v : Int) + 87 ≤ 122) = true := decide_eq_true (by omega)
          go_upto_region 46 with (first | (go_at_call 88; refine hlw.out.mono ?_; rintro e w' ⟨rfl, rfl⟩))
          rw [show ((v : Int) + 87 - 97 + 10) = (v : Int) by omega]
          clear hlw d97 d122 h57 h57d h95 hlo hlo2 hv10
          by_cases hvb : 16 ≤ v
          · have t1 : decide ((16 : Int) ≤ (v : Int)) = true := decide_eq_true (by omega)
            have HF := Lib.hid (show NumR.syn = R by rw [← HQ.out, HI.out.2.2, if_pos (by rw [← HV.out]; exact hvb)])
            clear hvb
            go_wp2_with fail
            go_ret2
            exact ⟨by rw [← HF.out]; rfl, HB0.out⟩
          · have t1 : decide ((16 : Int) ≤ (v : Int)) = false := decide_eq_false (by omega)
            have HVB := Lib.hid hvb
            clear hvb
            by_cases hk : K ≤ (n : Int)
            · have t2 : decide (K ≤ (n : Int)) = true := decide_eq_true hk
              have HF := Lib.hid (show NumR.rng = R by rw [← HQ.out, HI.out.2.2, if_neg (by rw [← HV.out]; exact HVB.out), if_pos (by have h := HK.out.1; have : cutU 16 = 1152921504606846976 := rfl; omega)])
              clear hk
              go_wp2_with fail
              go_ret2
              exact ⟨by rw [← HF.out, HK.out.2]; rfl, HB0.out⟩
            · have t2 : decide (K ≤ (n : Int)) = false := decide_eq_false hk
              have hnc : n < cutU 16 := by have h := HK.out.1; have : cutU 16 = 1152921504606846976 := rfl; omega
              have hnb : n * 16 ≤ 18446744073709551615 := cut_le 16 n v (by decide) hnc (by have := HVB.out; omega)
              have E1 : Hid (IntKind.u64.wrap ((n : Int) * 16) = (n : Int) * 16) := Lib.hid (Go.IntWalk.u64_in _ (by omega))
              by_cases hm : 18446744073709551616 ≤ n * 16 + v
              · have E2 : Hid (IntKind.u64.wrap ((n : Int) * 16 + (v : Int)) = (n : Int) * 16 + (v : Int) - 18446744073709551616) := Lib.hid (u64_over _ (by omega))
                have T3 : Hid (decide ((n : Int) * 16 + (v : Int) - 18446744073709551616 < (n : Int) * 16) = true) := Lib.hid (decide_eq_true (by omega))
                have HF := Lib.hid (show NumR.rng = R by rw [← HQ.out, HI.out.2.2, if_neg (by rw [← HV.out]; exact HVB.out), if_neg (by omega), if_pos (by rw [← HV.out]; exact hm)])
                clear hk hnc hnb hm
                have e1 := E1.out
                have e2 := E2.out
                have t3 := T3.out
                go_wp2_with fail
                go_ret2
                exact ⟨by rw [← HF.out, HK.out.2]; rfl, HB0.out⟩
              · have E2 : Hid (IntKind.u64.wrap ((n : Int) * 16 + (v : Int)) = (n : Int) * 16 + (v : Int)) := Lib.hid (Go.IntWalk.u64_in _ (by omega))
                have T3 : Hid (decide ((n : Int) * 16 + (v : Int) < (n : Int) * 16) = false ∧ decide (X < (n : Int) * 16 + (v : Int)) = false) := Lib.hid ⟨decide_eq_false (by omega), decide_eq_false (by rw [HK.out.2]; omega)⟩
                have HF := Lib.hid (show goU 16 (s.data.toList.drop (i + 1)) (n * 16 + v) = R by rw [← HQ.out, HI.out.2.2, if_neg (by rw [← HV.out]; exact HVB.out), if_neg (by omega), if_neg (by rw [← HV.out]; exact hm), ← HV.out])
                have hp5 := Go.IntWalk.wrap64_in ((i : Int) + 1) (by have := HI.out.1; have := HS.out.1; omega)
                have P5 : Hid (wrap64 ((i : Int) + 1) = (i : Int) + 1) := Lib.hid hp5
                clear hk hnc hnb hm hp5
                have e1 := E1.out
                have e2 := E2.out
                have t3 := T3.out.1
                have t4 := T3.out.2
                go_wp2_with fail
                clear e1 e2 t3 t4
                go_roundg (s.size - (i + 1))
                case measure => have := HI.out.1; have := HI.out.2.1; omega
                case rel => exact ⟨i + 1, n * 16 + v, rfl, by rw [P5.out]; rfl, by have := HI.out.1; omega, Nat.le_refl _, by congr 1, rfl, HF⟩
      · obtain rfl : i = s.size := by omega
        have c1 : decide ((s.size : Int) < (s.size : Int)) = false := decide_eq_false (by omega)
        have HF := Lib.hid (show NumR.ok n = R by rw [← HQ.out, List.drop_of_length_le (by rw [Array.length_toList]; exact Nat.le_refl _)]; rfl)
        clear hi hkx hlt
        go_wp2_with fail
        go_ret2
        exact ⟨by rw [← HF.out]; rfl, HB0.out⟩
end Go.Proofs.YtdcgcccaaooclaaGreatDoor.Rep
end
section
/- strconv.ParseInt at bases 10 and 16, of hexadecimal digits alone. -/
set_option linter.unusedVariables false
set_option linter.unusedSimpArgs false
set_option maxRecDepth 100000
namespace Go.Proofs.YtdcgcccaaooclaaGreatDoor.Rep
open Go.RowKit Go.Lib Go.Proofs.YtdcgcccaaooclaaGreatDoorW.PrintWords Go.Proofs.YtdcgcccaaooclaaGreatDoorW.PrintLast Go.Proofs.YtdcgcccaaooclaaGreatDoorW.PrintMore
/-- What package strconv's errors hold. -/
def LaidE (w : World) : Prop := (∃ te pe, w.cell? ⟨1, 0, none⟩ = some (.iface te pe)) ∧ ∃ te pe, w.cell? ⟨2, 0, none⟩ = some (.iface te pe)
theorem LaidE.below {w w' : World} (h : LaidE w) (hb : Below w.heap.size w w') : LaidE w' := by
  obtain ⟨⟨t1, p1, h1⟩, t2, p2, h2⟩ := h
  exact ⟨⟨t1, p1, (hb.cell (p := ⟨1, 0, none⟩) (World.block_lt_of_cell? w _ h1)).trans h1⟩, t2, p2, (hb.cell (p := ⟨2, 0, none⟩) (World.block_lt_of_cell? w _ h2)).trans h2⟩
/-- The number, if it is one that fits. -/
def okR : NumR → Option Nat
  | .ok n => if n < 9223372036854775808 then some n else none
  | _ => none
theorem neq21 (w : World) : (binOp .neq 45 (.iface 115 (.int .i64 2)) (.iface 115 (.int .i64 1))).run Tryz.prog w = .ok (.bool true) w := by kernel_rfl
theorem neq11 (w : World) : (binOp .neq 45 (.iface 115 (.int .i64 1)) (.iface 115 (.int .i64 1))).run Tryz.prog w = .ok (.bool false) w := by kernel_rfl
theorem neq2n (w : World) : (binOp .neq 45 (.iface 115 (.int .i64 2)) .nilIface).run Tryz.prog w = .ok (.bool true) w := by kernel_rfl
theorem neq1n (w : World) : (binOp .neq 45 (.iface 115 (.int .i64 1)) .nilIface).run Tryz.prog w = .ok (.bool true) w := by kernel_rfl
theorem neqnn (w : World) : (binOp .neq 45 .nilIface .nilIface).run Tryz.prog w = .ok (.bool false) w := by kernel_rfl
/-- What the inner ParseInt answers. -/
def AnsI (r : NumR) (e : Ending) : Prop := match okR r with
  | some n => e = .returned (.tuple #[.int .i64 (n : Int), .nilIface])
  | none => ∃ v k : Int, (k = 1 ∨ k = 2) ∧ e = .returned (.tuple #[.int .i64 v, .iface 115 (.int .i64 k)])
set_option maxHeartbeats 4000000 in
theorem inner10 (s : ByteArray) (hs : s.size ≤ 1000000000) (h0 : 0 < s.size) (hh : ∀ c ∈ s.data.toList, hexB c = true) (w : World) :
    Calls Tryz.prog 51 #[.string s, .int .i64 10, .int .i64 64] w fun e w' => AnsI (goU 10 s.data.toList 0) e ∧ Below w.heap.size w w' := by
  have hse2 : (s.toList == ([] : List UInt8)) = false := by
    cases h : s.toList with
    | nil =>
      rw [ByteArray.toList_eq] at h
      have : s.data.toList.length = s.size := by rw [Array.length_toList]; rfl
      rw [h] at this; simp at this; omega
    | cons a l => rfl
  have hse3 : s.toList.isEmpty = false := by cases h : s.toList with | nil => rw [h] at hse2; cases hse2 | cons a l => rfl
  have C := Lib.hid (parseUint10 s hs h0 hh w)
  obtain ⟨c, hc⟩ : ∃ c, c = s[0] := ⟨_, rfl⟩
  have hs0 : ∀ h : 0 < s.size, s[0] = c := fun _ => hc.symm
  have hhc : hexB c = true := hh c (by rw [hc]; exact List.getElem_mem (by rw [Array.length_toList]; exact h0))
  simp only [hexB, Bool.or_eq_true, Bool.and_eq_true, decide_eq_true_eq] at hhc
  have p43 : ((c.toNat : Int) == 43) = false := beq_eq_false_iff_ne.2 (by omega)
  have p45 : ((c.toNat : Int) == 45) = false := beq_eq_false_iff_ne.2 (by omega)
  have hsz : (0 : Int) < (s.size : Int) := by omega
  have q0 := eq_true hsz
  have n21 := neq21
  have n11 := neq11
  have n2n := neq2n
  have n1n := neq1n
  have nnn := neqnn
  clear hs hh hhc hc
  obtain ⟨R, hR⟩ : ∃ R, goU 10 s.data.toList 0 = R := ⟨_, rfl⟩
  rw [hR] at C ⊢
  clear hR
  cases R with
  | syn =>
    go_enter Tryz.func51, Tryz.ntmps51
    go_wp2_with (first | (go_at_call 71; refine C.out.mono ?_))
    rintro e w1 ⟨rfl, hb⟩
    have HB := Lib.hid hb
    clear hb
    simp only [ansU]
    go_wp2_with fail
    go_ret2
    exact ⟨⟨0, 2, .inr rfl, rfl⟩, HB.out⟩
  | rng =>
    go_enter Tryz.func51, Tryz.ntmps51
    go_wp2_with (first | (go_at_call 71; refine C.out.mono ?_))
    rintro e w1 ⟨rfl, hb⟩
    have HB := Lib.hid hb
    clear hb
    simp only [ansU]
    go_wp2_with fail
    go_ret2
    exact ⟨⟨_, 1, .inl rfl, rfl⟩, HB.out⟩
  | ok n =>
    go_enter Tryz.func51, Tryz.ntmps51
    go_wp2_with (first | (go_at_call 71; refine C.out.mono ?_))
    rintro e w1 ⟨rfl, hb⟩
    have HB := Lib.hid hb
    clear hb
    simp only [ansU]
    by_cases hn : n < 9223372036854775808
    · have hok : okR (.ok n) = some n := if_pos hn
      have hp : AnsI (.ok n) (.returned (.tuple #[.int .i64 (n : Int), .nilIface])) := by unfold AnsI; rw [hok]
      have HP := Lib.hid hp
      have t1 : decide ((9223372036854775808 : Int) ≤ (n : Int)) = false := decide_eq_false (by omega)
      have W1 : Hid (IntKind.i64.wrap (n : Int) = (n : Int)) := Lib.hid (Go.IntWalk.i64_in _ (by omega))
      have w1' := W1.out
      clear hn hok hp
      go_wp2_with fail
      go_ret2
      exact ⟨HP.out, HB.out⟩
    · have hok : okR (.ok n) = none := if_neg hn
      have hp : ∀ v : Int, AnsI (.ok n) (.returned (.tuple #[.int .i64 v, .iface 115 (.int .i64 1)])) := fun v => by unfold AnsI; rw [hok]; exact ⟨v, 1, .inl rfl, rfl⟩
      have HP := Lib.hid hp
      have t1 : decide ((9223372036854775808 : Int) ≤ (n : Int)) = true := decide_eq_true (by omega)
      clear hn hok hp
      go_wp2_with fail
      go_ret2
      exact ⟨HP.out _, HB.out⟩
set_option maxHeartbeats 4000000 in
theorem inner16 (s : ByteArray) (hs : s.size ≤ 1000000000) (h0 : 0 < s.size) (hh : ∀ c ∈ s.data.toList, hexB c = true) (w : World) :
    Calls Tryz.prog 51 #[.string s, .int .i64 16, .int .i64 64] w fun e w' => AnsI (goU 16 s.data.toList 0) e ∧ Below w.heap.size w w' := by
  have hse2 : (s.toList == ([] : List UInt8)) = false := by
    cases h : s.toList with
    | nil =>
      rw [ByteArray.toList_eq] at h
      have : s.data.toList.length = s.size := by rw [Array.length_toList]; rfl
      rw [h] at this; simp at this; omega
    | cons a l => rfl
  have hse3 : s.toList.isEmpty = false := by cases h : s.toList with | nil => rw [h] at hse2; cases hse2 | cons a l => rfl
  have C := Lib.hid (parseUint16 s hs h0 hh w)
  obtain ⟨c, hc⟩ : ∃ c, c = s[0] := ⟨_, rfl⟩
  have hs0 : ∀ h : 0 < s.size, s[0] = c := fun _ => hc.symm
  have hhc : hexB c = true := hh c (by rw [hc]; exact List.getElem_mem (by rw [Array.length_toList]; exact h0))
  simp only [hexB, Bool.or_eq_true, Bool.and_eq_true, decide_eq_true_eq] at hhc
  have p43 : ((c.toNat : Int) == 43) = false := beq_eq_false_iff_ne.2 (by omega)
  have p45 : ((c.toNat : Int) == 45) = false := beq_eq_false_iff_ne.2 (by omega)
  have hsz : (0 : Int) < (s.size : Int) := by omega
  have q0 := eq_true hsz
  have n21 := neq21
  have n11 := neq11
  have n2n := neq2n
  have n1n := neq1n
  have nnn := neqnn
  clear hs hh hhc hc
  obtain ⟨R, hR⟩ : ∃ R, goU 16 s.data.toList 0 = R := ⟨_, rfl⟩
  rw [hR] at C ⊢
  clear hR
  cases R with
  | syn =>
    go_enter Tryz.func51, Tryz.ntmps51
    go_wp2_with (first | (go_at_call 71; refine C.out.mono ?_))
    rintro e w1 ⟨rfl, hb⟩
    have HB := Lib.hid hb
    clear hb
    simp only [ansU]
    go_wp2_with fail
    go_ret2
    exact ⟨⟨0, 2, .inr rfl, rfl⟩, HB.out⟩
  | rng =>
    go_enter Tryz.func51, Tryz.ntmps51
    go_wp2_with (first | (go_at_call 71; refine C.out.mono ?_))
    rintro e w1 ⟨rfl, hb⟩
    have HB := Lib.hid hb
    clear hb
    simp only [ansU]
    go_wp2_with fail
    go_ret2
    exact ⟨⟨_, 1, .inl rfl, rfl⟩, HB.out⟩
  | ok n =>
    go_enter Tryz.func51, Tryz.ntmps51
    go_wp2_with (first | (go_at_call 71; refine C.out.mono ?_))
    rintro e w1 ⟨rfl, hb⟩
    have HB := Lib.hid hb
    clear hb
    simp only [ansU]
    by_cases hn : n < 9223372036854775808
    · have hok : okR (.ok n) = some n := if_pos hn
      have hp : AnsI (.ok n) (.returned (.tuple #[.int .i64 (n : Int), .nilIface])) := by unfold AnsI; rw [hok]
      have HP := Lib.hid hp
      have t1 : decide ((9223372036854775808 : Int) ≤ (n : Int)) = false := decide_eq_false (by omega)
      have W1 : Hid (IntKind.i64.wrap (n : Int) = (n : Int)) := Lib.hid (Go.IntWalk.i64_in _ (by omega))
      have w1' := W1.out
      clear hn hok hp
      go_wp2_with fail
      go_ret2
      exact ⟨HP.out, HB.out⟩
    · have hok : okR (.ok n) = none := if_neg hn
      have hp : ∀ v : Int, AnsI (.ok n) (.returned (.tuple #[.int .i64 v, .iface 115 (.int .i64 1)])) := fun v => by unfold AnsI; rw [hok]; exact ⟨v, 1, .inl rfl, rfl⟩
      have HP := Lib.hid hp
      have t1 : decide ((9223372036854775808 : Int) ≤ (n : Int)) = true := decide_eq_true (by omega)
      clear hn hok hp
      go_wp2_with fail
      go_ret2
      exact ⟨HP.out _, HB.out⟩
/-- What ParseInt answers of a text of hexadecimal digits: its number, or an error. -/
def numO (b : Nat) (s : ByteArray) : Option Nat := if s.size = 0 then none else okR (goU b s.data.toList 0)
def AnsO (o : Option Nat) (e : Ending) : Prop := match o with
  | some n => e = .returned (.tuple #[.int .i64 (n : Int), .nilIface])
  | none => ∃ v k : Int, (k = 1 ∨ k = 2) ∧ e = .returned (.tuple #[.int .i64 v, .iface 115 (.int .i64 k)])
def OutO (o : Option Nat) (e : Ending) : Prop := match o with
  | some n => e = .returned (.tuple #[.int .i64 (n : Int), .nilIface])
  | none => ∃ (v : Int) (p : Value), e = .returned (.tuple #[.int .i64 v, .iface 119 p])
theorem inner_empty (s : ByteArray) (h0 : s.size = 0) (b : Int) (w : World) :
    Calls Tryz.prog 51 #[.string s, .int .i64 b, .int .i64 64] w fun e w' => AnsO none e ∧ Below w.heap.size w w' := by
  have hse : s.toList = [] := by
    rw [ByteArray.toList_eq]
    exact List.eq_nil_of_length_eq_zero (by rw [Array.length_toList]; exact h0)
  have h1 : (s.toList == ([] : List UInt8)) = true := by rw [hse]; rfl
  have h2 : s.toList.isEmpty = true := by rw [hse]; rfl
  clear h0
  go_enter Tryz.func51, Tryz.ntmps51
  go_wp2_with fail
  go_ret2
  exact ⟨⟨0, 2, .inr rfl, rfl⟩, Below.refl _ _⟩
theorem inner_10 (s : ByteArray) (hs : s.size ≤ 1000000000) (hh : ∀ c ∈ s.data.toList, hexB c = true) (w : World) :
    Calls Tryz.prog 51 #[.string s, .int .i64 10, .int .i64 64] w fun e w' => AnsO (numO 10 s) e ∧ Below w.heap.size w w' := by
  unfold numO
  by_cases h0 : s.size = 0
  · rw [if_pos h0]; exact inner_empty s h0 10 w
  · rw [if_neg h0]; exact (inner10 s hs (by omega) hh w).mono fun e w' h => h
set_option maxHeartbeats 1000000 in
theorem parseInt10 (s : ByteArray) (hs : s.size ≤ 1000000000) (hh : ∀ c ∈ s.data.toList, hexB c = true) (w : World) (hE : LaidE w) :
    Calls Tryz.prog 34 #[.string s, .int .i64 10, .int .i64 64] w fun e w' => OutO (numO 10 s) e ∧ Below w.heap.size w w' := by
  have C := Lib.hid (inner_10 s hs hh w)
  have HE := Lib.hid (And.intro hE hs)
  have n2n := neq2n
  have n1n := neq1n
  have nnn := neqnn
  clear hs hh hE
  obtain ⟨R, hR⟩ : ∃ R, numO 10 s = R := ⟨_, rfl⟩
  rw [hR] at C ⊢
  clear hR
  cases R with
  | some n =>
    go_enter Tryz.func34, Tryz.ntmps34
    go_wp2_with (first | (go_at_call 51; refine C.out.mono ?_))
    rintro e w1 ⟨rfl, hb⟩
    have HB := Lib.hid hb
    clear hb
    go_wp2_with fail
    go_ret2
    exact ⟨rfl, HB.out⟩
  | none =>
    go_enter Tryz.func34, Tryz.ntmps34
    go_wp2_with (first | (go_at_call 51; refine C.out.mono ?_))
    rintro e w1 ⟨⟨v, k, rfl | rfl, rfl⟩, hb⟩
    · obtain ⟨⟨_, _⟩, te, pe, h2⟩ := HE.out.1.below hb
      have HB := Lib.hid hb
      have HT := Lib.hid (fun fn => Tryz.strconv_toError_range fn s 10 64 _ w1 (by have := HE.out.2; omega) h2 (.inr ⟨te, pe, rfl⟩))
      clear hb h2
      go_wp2_with (first | (go_at_call 52; refine (HT.out _).mono ?_))
      rintro e w2 ⟨N, rfl, _, _, hb⟩
      have HB2 := Lib.hid (HB.out.trans (hb.mono HB.out.size))
      clear hb
      go_wp2_with fail
      go_ret2
      exact ⟨⟨v, _, rfl⟩, HB2.out⟩
    · obtain ⟨⟨te, pe, h1⟩, _⟩ := HE.out.1.below hb
      have HB := Lib.hid hb
      have HT := Lib.hid (fun fn => Tryz.strconv_toError_syntax fn s 10 64 _ w1 (by have := HE.out.2; omega) h1 (.inr ⟨te, pe, rfl⟩))
      clear hb h1
      go_wp2_with (first | (go_at_call 52; refine (HT.out _).mono ?_))
      rintro e w2 ⟨N, rfl, _, _, hb⟩
      have HB2 := Lib.hid (HB.out.trans (hb.mono HB.out.size))
      clear hb
      go_wp2_with fail
      go_ret2
      exact ⟨⟨v, _, rfl⟩, HB2.out⟩
theorem inner_16 (s : ByteArray) (hs : s.size ≤ 1000000000) (hh : ∀ c ∈ s.data.toList, hexB c = true) (w : World) :
    Calls Tryz.prog 51 #[.string s, .int .i64 16, .int .i64 64] w fun e w' => AnsO (numO 16 s) e ∧ Below w.heap.size w w' := by
  unfold numO
  by_cases h0 : s.size = 0
  · rw [if_pos h0]; exact inner_empty s h0 16 w
  · rw [if_neg h0]; exact (inner16 s hs (by omega) hh w).mono fun e w' h => h
set_option maxHeartbeats 1000000 in
theorem parseInt16 (s : ByteArray) (hs : s.size ≤ 1000000000) (hh : ∀ c ∈ s.data.toList, hexB c = true) (w : World) (hE : LaidE w) :
    Calls Tryz.prog 34 #[.string s, .int .i64 16, .int .i64 64] w fun e w' => OutO (numO 16 s) e ∧ Below w.heap.size w w' := by
  have C := Lib.hid (inner_16 s hs hh w)
  have HE := Lib.hid (And.intro hE hs)
  have n2n := neq2n
  have n1n := neq1n
  have nnn := neqnn
  clear hs hh hE
  obtain ⟨R, hR⟩ : ∃ R, numO 16 s = R := ⟨_, rfl⟩
  rw [hR] at C ⊢
  clear hR
  cases R with
  | some n =>
    go_enter Tryz.func34, Tryz.ntmps34
    go_wp2_with (first | (go_at_call 51; refine C.out.mono ?_))
    rintro e w1 ⟨rfl, hb⟩
    have HB := Lib.hid hb
    clear hb
    go_wp2_with fail
    go_ret2
    exact ⟨rfl, HB.out⟩
  | none =>
    go_enter Tryz.func34, Tryz.ntmps34
    go_wp2_with (first | (go_at_call 51; refine C.out.mono ?_))
    rintro e w1 ⟨⟨v, k, rfl | rfl, rfl⟩, hb⟩
    · obtain ⟨⟨_, _⟩, te, pe, h2⟩ := HE.out.1.below hb
      have HB := Lib.hid hb
      have HT := Lib.hid (fun fn => Tryz.strconv_toError_range fn s 16 64 _ w1 (by have := HE.out.2; omega) h2 (.inr ⟨te, pe, rfl⟩))
      clear hb h2
      go_wp2_with (first | (go_at_call 52; refine (HT.out _).mono ?_))
      rintro e w2 ⟨N, rfl, _, _, hb⟩
      have HB2 := Lib.hid (HB.out.trans (hb.mono HB.out.size))
      clear hb
      go_wp2_with fail
      go_ret2
      exact ⟨⟨v, _, rfl⟩, HB2.out⟩
    · obtain ⟨⟨te, pe, h1⟩, _⟩ := HE.out.1.below hb
      have HB := Lib.hid hb
      have HT := Lib.hid (fun fn => Tryz.strconv_toError_syntax fn s 16 64 _ w1 (by have := HE.out.2; omega) h1 (.inr ⟨te, pe, rfl⟩))
      clear hb h1
      go_wp2_with (first | (go_at_call 52; refine (HT.out _).mono ?_))
      rintro e w2 ⟨N, rfl, _, _, hb⟩
      have HB2 := Lib.hid (HB.out.trans (hb.mono HB.out.size))
      clear hb
      go_wp2_with fail
      go_ret2
      exact ⟨⟨v, _, rfl⟩, HB2.out⟩
end Go.Proofs.YtdcgcccaaooclaaGreatDoor.Rep
end
section
/- The contracts of library functions that this seat leans on: each is one application of a contract of the shelf (written by lay-plain.mjs, cut to what is needed). -/
namespace Go.Proofs
open Go.Shelf
def Tryz.lays169_ren : Go.Shelf.Ren := ⟨fun | 169 => 24 | n => n, fun | 70 => 39 | 9 => 9 | 0 => 0 | 72 => 41 | 37 => 30 | 127 => 67 | 3 => 3 | 5 => 5 | n => n, fun | n => n⟩
theorem Tryz.lays169 : Go.Proofs.Lays.n169 Tryz.prog Tryz.lays169_ren := {
  mixed := by kernel_rfl
  f169 := Tryz.func24.trans (congrArg some (by kernel_rfl))
  t0 := Tryz.underlying0
  a0 := Tryz.isAgg0
  z0 := Tryz.sizeOf0
  v0 := Tryz.zeroValue0
  t3 := Tryz.underlying3
  a3 := Tryz.isAgg3
  z3 := Tryz.sizeOf3
  v3 := Tryz.zeroValue3
  t9 := Tryz.underlying9
  a9 := Tryz.isAgg9
  z9 := Tryz.sizeOf9
  v9 := Tryz.zeroValue9
  t37 := Tryz.underlying30
  a37 := Tryz.isAgg30
  z37 := Tryz.sizeOf30
  v37 := Tryz.zeroValue30
  t70 := Tryz.underlying39
  a70 := Tryz.isAgg39
  z70 := Tryz.sizeOf39
  v70 := Tryz.zeroValue39
  t72 := Tryz.underlying41
  a72 := Tryz.isAgg41
  z72 := Tryz.sizeOf41
  v72 := Tryz.zeroValue41
  t127 := Tryz.underlying67
  a127 := Tryz.isAgg67
  z127 := Tryz.sizeOf67
  v127 := Tryz.zeroValue67 }
theorem Tryz.Builder_Extra_169 : Builder.Extra Tryz.prog Tryz.lays169_ren := {
  sizeBuilder := by kernel_rfl
  liesBuilder := by kernel_rfl
  t5 := Tryz.underlying5
  a5 := Tryz.isAgg5
  z5 := Tryz.sizeOf5
  v5 := Tryz.zeroValue5
  infoByte := by kernel_rfl
  cellsByte := by kernel_rfl
  sizeByte := by kernel_rfl
  neB5 := by decide }
def Tryz.lays160_ren : Go.Shelf.Ren := ⟨fun | 160 => 33 | 232 => 45 | 231 => 44 | 227 => 46 | 234 => 48 | 233 => 47 | 236 => 50 | 235 => 49 | 228 => 67 | 271 => 70 | 151 => 69 | 197 => 68 | 120 => 87 | 152 => 86 | 260 => 85 | 137 => 103 | 119 => 104 | 224 => 64 | 225 => 63 | 217 => 62 | 266 => 83 | n => n, fun | 9 => 9 | 4 => 4 | 3 => 3 | 5 => 5 | 117 => 85 | 116 => 84 | 0 => 0 | 124 => 88 | 21 => 21 | 105 => 112 | 46 => 110 | 119 => 101 | 139 => 157 | 138 => 156 | n => n, fun | 3 => 3 | 4 => 4 | n => n⟩
theorem Tryz.lays160 : Go.Proofs.Lays.n160 Tryz.prog Tryz.lays160_ren := {
  mixed := by kernel_rfl
  f119 := Tryz.func104.trans (congrArg some (by kernel_rfl))
  f120 := Tryz.func87.trans (congrArg some (by kernel_rfl))
  f137 := Tryz.func103.trans (congrArg some (by kernel_rfl))
  f151 := Tryz.func69.trans (congrArg some (by kernel_rfl))
  f152 := Tryz.func86.trans (congrArg some (by kernel_rfl))
  f160 := Tryz.func33.trans (congrArg some (by kernel_rfl))
  f197 := Tryz.func68.trans (congrArg some (by kernel_rfl))
  f217 := Tryz.func62.trans (congrArg some (by kernel_rfl))
  f224 := Tryz.func64.trans (congrArg some (by kernel_rfl))
  f225 := Tryz.func63.trans (congrArg some (by kernel_rfl))
  f227 := Tryz.func46.trans (congrArg some (by kernel_rfl))
  f228 := Tryz.func67.trans (congrArg some (by kernel_rfl))
  f231 := Tryz.func44.trans (congrArg some (by kernel_rfl))
  f232 := Tryz.func45.trans (congrArg some (by kernel_rfl))
  f233 := Tryz.func47.trans (congrArg some (by kernel_rfl))
  f234 := Tryz.func48.trans (congrArg some (by kernel_rfl))
  f235 := Tryz.func49.trans (congrArg some (by kernel_rfl))
  f236 := Tryz.func50.trans (congrArg some (by kernel_rfl))
  f260 := Tryz.func85.trans (congrArg some (by kernel_rfl))
  f266 := Tryz.func83.trans (congrArg some (by kernel_rfl))
  f271 := Tryz.func70.trans (congrArg some (by kernel_rfl))
  t0 := Tryz.underlying0
  a0 := Tryz.isAgg0
  z0 := Tryz.sizeOf0
  v0 := Tryz.zeroValue0
  t3 := Tryz.underlying3
  a3 := Tryz.isAgg3
  z3 := Tryz.sizeOf3
  v3 := Tryz.zeroValue3
  t4 := Tryz.underlying4
  a4 := Tryz.isAgg4
  z4 := Tryz.sizeOf4
  v4 := Tryz.zeroValue4
  t5 := Tryz.underlying5
  a5 := Tryz.isAgg5
  z5 := Tryz.sizeOf5
  v5 := Tryz.zeroValue5
  t9 := Tryz.underlying9
  a9 := Tryz.isAgg9
  z9 := Tryz.sizeOf9
  v9 := Tryz.zeroValue9
  t21 := Tryz.underlying21
  a21 := Tryz.isAgg21
  z21 := Tryz.sizeOf21
  v21 := Tryz.zeroValue21
  t46 := Tryz.underlying110
  a46 := Tryz.isAgg110
  z46 := Tryz.sizeOf110
  v46 := Tryz.zeroValue110
  t105 := Tryz.underlying112
  a105 := Tryz.isAgg112
  z105 := Tryz.sizeOf112
  v105 := Tryz.zeroValue112
  t116 := Tryz.underlying84
  a116 := Tryz.isAgg84
  z116 := Tryz.sizeOf84
  t117 := Tryz.underlying85
  a117 := Tryz.isAgg85
  z117 := Tryz.sizeOf85
  v117 := Tryz.zeroValue85
  t119 := Tryz.underlying101
  a119 := Tryz.isAgg101
  z119 := Tryz.sizeOf101
  t124 := Tryz.underlying88
  a124 := Tryz.isAgg88
  z124 := Tryz.sizeOf88
  v124 := Tryz.zeroValue88
  t138 := Tryz.underlying156
  a138 := Tryz.isAgg156
  z138 := Tryz.sizeOf156
  v138 := Tryz.zeroValue156
  t139 := Tryz.underlying157
  a139 := Tryz.isAgg157
  z139 := Tryz.sizeOf157
  v139 := Tryz.zeroValue157
  g3 := by kernel_rfl
  g4 := by kernel_rfl }
def Tryz.lays103_ren : Go.Shelf.Ren := ⟨fun | 103 => 32 | 210 => 43 | 206 => 66 | n => n, fun | 9 => 9 | 4 => 4 | 24 => 70 | 3 => 3 | n => n, fun | n => n⟩
theorem Tryz.lays103 : Go.Proofs.Lays.n103 Tryz.prog Tryz.lays103_ren := {
  mixed := by kernel_rfl
  f103 := Tryz.func32.trans (congrArg some (by kernel_rfl))
  f206 := Tryz.func66.trans (congrArg some (by kernel_rfl))
  f210 := Tryz.func43.trans (congrArg some (by kernel_rfl))
  t3 := Tryz.underlying3
  a3 := Tryz.isAgg3
  z3 := Tryz.sizeOf3
  v3 := Tryz.zeroValue3
  t4 := Tryz.underlying4
  a4 := Tryz.isAgg4
  z4 := Tryz.sizeOf4
  v4 := Tryz.zeroValue4
  t9 := Tryz.underlying9
  a9 := Tryz.isAgg9
  z9 := Tryz.sizeOf9
  v9 := Tryz.zeroValue9
  t24 := Tryz.underlying70
  a24 := Tryz.isAgg70
  z24 := Tryz.sizeOf70
  v24 := Tryz.zeroValue70 }
open Go.RowKit in
/-- strings.CutPrefix: "CutPrefix returns s without the provided leading prefix string and reports whether it found the prefix. If s doesn't start with prefix, CutPrefix returns s, false. If prefix is the empty string, CutPrefix returns s, true.": IT RETURNS '(Lib.trimPrefix s p, Lib.hasPrefix s p)'; the world is as it was. (LAID: no walk: one application.) -/
theorem Tryz.strings_CutPrefix (s p : ByteArray) (w : World) :
    Calls Tryz.prog 32 #[.string s, .string p] w fun e w' => e = .returned (.tuple #[.string ⟨(Lib.trimPrefix s.data.toList p.data.toList).toArray⟩, .bool (Lib.hasPrefix s.data.toList p.data.toList)]) ∧ w' = w := Any.strings_CutPrefix Tryz.lays103 s p w
open Go.RowKit in
/-- (*strings.Builder).String: "String returns the accumulated string.": WHATEVER THE BUILDER HOLDS; THE FORM '_k': OVER 'Lib.IsBuilderF' (a builder that 'String()' may have read), AND WITH THE FRAME THAT REACHES ABOVE THE BUILDER: 'Lib.OthersKept': every block that is not b and is no row of uint8's stands as it stood: the iterator of a range among them. (LAID: no walk: one application.) -/
theorem Tryz.Builder_String_any_k (B b : Nat) (l : List UInt8) (w : World) (h : Lib.IsBuilderF 41 5 B b (Lib.byteCells l) w) (hBw : B ≤ w.heap.size) :
    Calls Tryz.prog 24 #[.pointer (some ⟨b, 0, none⟩)] w fun e w' => e = .returned (.string ⟨l.toArray⟩) ∧ (Lib.IsBuilderF 41 5 B b (Lib.byteCells l) w' ∧ Below B w w' ∧ Lib.OthersKept 5 (some b) w w') := Any.Builder_String_any_k Tryz.lays169 Tryz.Builder_Extra_169 B b l w h hBw
def Tryz.lays219_ren : Go.Shelf.Ren := ⟨fun | 219 => 41 | 217 => 62 | 225 => 63 | 224 => 64 | 267 => 65 | 266 => 83 | 314 => 84 | n => n, fun | 9 => 9 | 3 => 3 | 4 => 4 | 5 => 5 | 46 => 110 | 146 => 139 | 51 => 53 | n => n, fun | 1 => 0 | n => n⟩
theorem Tryz.lays219 : Go.Proofs.Lays.n219 Tryz.prog Tryz.lays219_ren := {
  mixed := by kernel_rfl
  f217 := Tryz.func62.trans (congrArg some (by kernel_rfl))
  f219 := Tryz.func41.trans (congrArg some (by kernel_rfl))
  f224 := Tryz.func64.trans (congrArg some (by kernel_rfl))
  f225 := Tryz.func63.trans (congrArg some (by kernel_rfl))
  f266 := Tryz.func83.trans (congrArg some (by kernel_rfl))
  f267 := Tryz.func65.trans (congrArg some (by kernel_rfl))
  f314 := Tryz.func84.trans (congrArg some (by kernel_rfl))
  t3 := Tryz.underlying3
  a3 := Tryz.isAgg3
  z3 := Tryz.sizeOf3
  v3 := Tryz.zeroValue3
  t4 := Tryz.underlying4
  a4 := Tryz.isAgg4
  z4 := Tryz.sizeOf4
  v4 := Tryz.zeroValue4
  t5 := Tryz.underlying5
  a5 := Tryz.isAgg5
  z5 := Tryz.sizeOf5
  v5 := Tryz.zeroValue5
  t9 := Tryz.underlying9
  a9 := Tryz.isAgg9
  z9 := Tryz.sizeOf9
  v9 := Tryz.zeroValue9
  t46 := Tryz.underlying110
  a46 := Tryz.isAgg110
  z46 := Tryz.sizeOf110
  v46 := Tryz.zeroValue110
  t51 := Tryz.underlying53
  a51 := Tryz.isAgg53
  z51 := Tryz.sizeOf53
  v51 := Tryz.zeroValue53
  t146 := Tryz.underlying139
  a146 := Tryz.isAgg139
  z146 := Tryz.sizeOf139
  v146 := Tryz.zeroValue139
  g1 := by kernel_rfl }
open Go.RowKit Go.Lib in
/-- internal/stringslite.Index (what strings.Index calls) AT A substr OF ONE BYTE c: IT RETURNS 'Lib.indexByte s c'; the world is as it was. (LAID: no walk: one application.) -/
theorem Tryz.stringslite_Index_one (s : ByteArray) (c : UInt8) (w : World) :
    Calls Tryz.prog 41 #[.string s, .string ⟨#[c]⟩] w fun e w' => e = .returned (.int .i64 (Lib.indexByte s.data.toList c)) ∧ w' = w := Any.stringslite_Index_one Tryz.lays219 s c w
def Tryz.lays138_ren : Go.Shelf.Ren := ⟨fun | 138 => 155 | 195 => 156 | 218 => 157 | 143 => 158 | 219 => 41 | 217 => 62 | 225 => 63 | 224 => 64 | 267 => 65 | 266 => 83 | 314 => 84 | n => n, fun | 9 => 9 | 3 => 3 | 4 => 4 | 5 => 5 | 0 => 0 | 46 => 110 | 146 => 139 | 51 => 53 | n => n, fun | 1 => 0 | n => n⟩
theorem Tryz.lays138 : Go.Proofs.Lays.n138 Tryz.prog Tryz.lays138_ren := {
  mixed := by kernel_rfl
  f138 := Tryz.func155.trans (congrArg some (by kernel_rfl))
  f143 := Tryz.func158.trans (congrArg some (by kernel_rfl))
  f195 := Tryz.func156.trans (congrArg some (by kernel_rfl))
  f217 := Tryz.func62.trans (congrArg some (by kernel_rfl))
  f218 := Tryz.func157.trans (congrArg some (by kernel_rfl))
  f219 := Tryz.func41.trans (congrArg some (by kernel_rfl))
  f224 := Tryz.func64.trans (congrArg some (by kernel_rfl))
  f225 := Tryz.func63.trans (congrArg some (by kernel_rfl))
  f266 := Tryz.func83.trans (congrArg some (by kernel_rfl))
  f267 := Tryz.func65.trans (congrArg some (by kernel_rfl))
  f314 := Tryz.func84.trans (congrArg some (by kernel_rfl))
  t0 := Tryz.underlying0
  a0 := Tryz.isAgg0
  z0 := Tryz.sizeOf0
  v0 := Tryz.zeroValue0
  t3 := Tryz.underlying3
  a3 := Tryz.isAgg3
  z3 := Tryz.sizeOf3
  v3 := Tryz.zeroValue3
  t4 := Tryz.underlying4
  a4 := Tryz.isAgg4
  z4 := Tryz.sizeOf4
  v4 := Tryz.zeroValue4
  t5 := Tryz.underlying5
  a5 := Tryz.isAgg5
  z5 := Tryz.sizeOf5
  v5 := Tryz.zeroValue5
  t9 := Tryz.underlying9
  a9 := Tryz.isAgg9
  z9 := Tryz.sizeOf9
  v9 := Tryz.zeroValue9
  t46 := Tryz.underlying110
  a46 := Tryz.isAgg110
  z46 := Tryz.sizeOf110
  v46 := Tryz.zeroValue110
  t51 := Tryz.underlying53
  a51 := Tryz.isAgg53
  z51 := Tryz.sizeOf53
  v51 := Tryz.zeroValue53
  t146 := Tryz.underlying139
  a146 := Tryz.isAgg139
  z146 := Tryz.sizeOf139
  v146 := Tryz.zeroValue139
  g1 := by kernel_rfl }
open Go.RowKit Go.Lib in
/-- strings.Count AT A substr OF ONE BYTE ('hp'): "Count counts the number of non-overlapping instances of substr in s.": IT RETURNS 'Lib.countByte s (that byte)'; the world is as it was. ✋ NO CONTRACT HERE YET at an empty substr (utf8.RuneCountInString) or at a longer one (a loop over strings.Index). (LAID: no walk: one application.) -/
theorem Tryz.strings_Count_one (s : ByteArray) (c : UInt8) (w : World) :
    Calls Tryz.prog 155 #[.string s, .string ⟨#[c]⟩] w fun e w' => e = .returned (.int .i64 (Lib.countByte s.data.toList c)) ∧ w' = w := Any.strings_Count_one Tryz.lays138 s c w
end Go.Proofs
end
section
/- Package strings' functions in given form: Trim, TrimLeft, IndexByte, Contains and Cut at one byte. -/
set_option linter.unusedVariables false
set_option maxRecDepth 20000
set_option linter.unusedSimpArgs false
set_option maxRecDepth 20000
namespace Go.Proofs.YtdcgcccaaooclaaGreatDoor.At
open Go.RowKit Go.Lib Go.Shelf
theorem hasc (s : ByteArray) (h : s.data.toList.all (fun b => decide (b.toNat < 128)) = true) : ∀ (j : Nat) b, s.data.toList[j]? = some b → b.toNat < 128 :=
  fun _ b hb => of_decide_eq_true (List.all_eq_true.1 h b (List.mem_of_getElem? hb))
def strings_Trim.f (a0 : ByteArray) (a1 : ByteArray) : Option ByteArray := if a0.size ≤ 9223372036854775807 ∧ a1.size < 4294967281 ∧ a1.data.toList.all (fun b => decide (b.toNat < 128)) = true then some ⟨(Lib.trimS a0.data.toList a1.data.toList).toArray⟩ else none
theorem strings_Trim.calls (a0 : ByteArray) (a1 : ByteArray) (r : ByteArray) (w : World) (h : strings_Trim.f a0 a1 = some r) :
    Calls Tryz.prog 33 #[.string a0, .string a1] w fun e w' => e = .returned (.string r) ∧ Below w.heap.size w w' := by
  unfold strings_Trim.f at h
  split at h
  case isFalse => cases h
  case isTrue hc =>
    obtain rfl := Option.some.inj h
    exact Any.strings_Trim_laid Tryz.lays160 (by kernel_rfl) a0 a1 w hc.1 hc.2.1 (hasc a1 hc.2.2)
/-- The one byte of a text. -/
def byte1 (s : ByteArray) : Option UInt8 := match s.data.toList with | [c] => some c | _ => none
theorem byte1_eq {s : ByteArray} {c : UInt8} (h : byte1 s = some c) : s = ⟨#[c]⟩ := by
  unfold byte1 at h
  split at h
  case h_1 c' hs =>
    obtain rfl := Option.some.inj h
    have : s.data = #[c'] := by rw [← Array.toArray_toList (xs := s.data), hs]
    cases s
    simp only at this
    rw [this]
  case h_2 => cases h
/-- What stands ahead of a byte, and behind it. -/
def cutV (s : ByteArray) (c : UInt8) : ByteArray × ByteArray × Bool :=
  if 0 ≤ Lib.indexByte s.data.toList c then (s.extract 0 (Lib.indexByte s.data.toList c).toNat, s.extract ((Lib.indexByte s.data.toList c).toNat + 1) s.size, true) else (s, ⟨#[]⟩, false)
def strings_Cut.f (a0 : ByteArray) (a1 : ByteArray) : Option (ByteArray × ByteArray × Bool) := if a0.size ≤ 9223372036854775806 then (byte1 a1).bind fun c => some (cutV a0 c) else none
set_option maxHeartbeats 1000000 in
theorem lite_Cut (a0 : ByteArray) (c : UInt8) (hs : a0.size ≤ 9223372036854775806) (w : World) :
    Calls Tryz.prog 30 #[.string a0, .string ⟨#[c]⟩] w fun e w' => e = .returned (.tuple #[.string (cutV a0 c).1, .string (cutV a0 c).2.1, .bool (cutV a0 c).2.2]) ∧ Below w.heap.size w w' := by
  have h1 := Tryz.stringslite_Index_one a0 c w
  have h0 := Lib.indexByte_ge a0.data.toList c
  have hsz : (a0.data.toList.length : Int) = a0.size := by rw [Array.length_toList]; rfl
  have hlt : Lib.indexByte a0.data.toList c < a0.size := by
    rcases Int.lt_or_le (Lib.indexByte a0.data.toList c) 0 with h | h
    · omega
    · obtain ⟨o, ho⟩ : ∃ o : Nat, Lib.indexByte a0.data.toList c = o := ⟨_, (Int.toNat_of_nonneg h).symm⟩
      have h2 := (Lib.indexByte_some ho).1
      have h3 := (List.getElem?_eq_some_iff.1 h2).1
      omega
  have hcut : cutV a0 c = if 0 ≤ Lib.indexByte a0.data.toList c then (a0.extract 0 (Lib.indexByte a0.data.toList c).toNat, a0.extract ((Lib.indexByte a0.data.toList c).toNat + 1) a0.size, true) else (a0, ⟨#[]⟩, false) := rfl
  rw [hcut]
  clear hcut
  generalize Lib.indexByte a0.data.toList c = q at h1 h0 hlt ⊢
  clear hsz
  by_cases hq : 0 ≤ q
  · rw [if_pos hq]
    obtain ⟨n, rfl⟩ : ∃ n : Nat, q = n := ⟨q.toNat, (Int.toNat_of_nonneg hq).symm⟩
    have HLT := Lib.hid hlt
    have HS := Lib.hid hs
    have p1 : decide ((0 : Int) ≤ (n : Int)) = true := decide_eq_true (by omega)
    have p2 := eq_true (show (0 : Int) ≤ (n : Int) by omega)
    have q2 := eq_true (show (n : Int) ≤ (a0.size : Int) by omega)
    have q3 := eq_true (show ((n : Int) + 1) ≤ (a0.size : Int) by omega)
    have q4 : wrap64 ((n : Int) + 1) = (n : Int) + 1 := Go.IntWalk.wrap64_in _ (by omega)
    have q5 := eq_true (show (0 : Int) ≤ (n : Int) + 1 by omega)
    clear h0 hlt hq hs
    go_enter Tryz.func30, Tryz.ntmps30
    go_wp2_with (go_at_call 41; refine h1.mono ?_)
    rintro e w2 ⟨rfl, rfl⟩
    go_wp2_with fail
    go_region
    all_goals (go_wp2_with fail)
    all_goals go_ret3
    all_goals exact ⟨rfl, by first | exact Below.refl _ _ | exact (Below.refl _ _).drew | exact pw_drewB _⟩
  · rw [if_neg hq]
    have p1 : decide ((0 : Int) ≤ q) = false := decide_eq_false hq
    go_enter Tryz.func30, Tryz.ntmps30
    go_wp2_with (go_at_call 41; refine h1.mono ?_)
    go_ret3
    exact ⟨rfl, Below.refl _ _⟩
theorem strings_Cut.calls (a0 : ByteArray) (a1 : ByteArray) (r1 : ByteArray) (r2 : ByteArray) (r3 : Bool) (w : World) (h : strings_Cut.f a0 a1 = some (r1, r2, r3)) :
    Calls Tryz.prog 22 #[.string a0, .string a1] w fun e w' => e = .returned (.tuple #[.string r1, .string r2, .bool r3]) ∧ Below w.heap.size w w' := by
  unfold strings_Cut.f at h
  split at h
  case isFalse => cases h
  case isTrue hs =>
    obtain ⟨c, h1, h2⟩ := Option.bind_eq_some_iff.1 h
    obtain rfl := byte1_eq h1
    have h3 := lite_Cut a0 c hs w
    rw [Option.some.inj h2] at h3
    clear h h1 h2 hs
    go_enter Tryz.func22, Tryz.ntmps22
    go_wp2_with (go_at_call 30; refine h3.mono ?_)
    rintro e w2 rfl hb
    go_wp2_with fail
    go_ret3
    exact ⟨rfl, hb⟩
def strings_CutPrefix.f (a0 : ByteArray) (a1 : ByteArray) : Option (ByteArray × Bool) := some (⟨(Lib.trimPrefix a0.data.toList a1.data.toList).toArray⟩, Lib.hasPrefix a0.data.toList a1.data.toList)
theorem strings_CutPrefix.calls (a0 : ByteArray) (a1 : ByteArray) (r1 : ByteArray) (r2 : Bool) (w : World) (h : strings_CutPrefix.f a0 a1 = some (r1, r2)) :
    Calls Tryz.prog 32 #[.string a0, .string a1] w fun e w' => e = .returned (.tuple #[.string r1, .bool r2]) ∧ Below w.heap.size w w' := by
  have h2 := Option.some.inj h
  obtain rfl := congrArg Prod.fst h2
  obtain rfl := congrArg Prod.snd h2
  exact (Tryz.strings_CutPrefix a0 a1 w).mono fun e w' ⟨he, hw⟩ => ⟨he, by rw [hw]; exact Below.refl _ _⟩
end Go.Proofs.YtdcgcccaaooclaaGreatDoor.At
end
section
/- glyph.among and glyph.Char by hand: a code point in one of some ranges. -/
set_option linter.unusedVariables false
set_option maxRecDepth 20000
set_option linter.unusedSimpArgs false
set_option maxRecDepth 20000
namespace Go.Proofs.YtdcgcccaaooclaaGreatDoor.At
open Go.RowKit Go.Lib Go.Shelf
theorem cellAt {w : World} {b : Nat} {cs : Array Value} {t : TypeId} {fz : Nat × Nat} (h : w.heap[b]? = some (.cells cs t fz)) (i : Nat) : w.cell? ⟨b, i, none⟩ = cs[i]? := by simp [World.cell?, h]
/-- Is a number in one of some ranges? -/
def inR (c : Int) : List (Int × Int) → Bool
  | [] => false
  | r :: l => (decide (r.1 ≤ c) && decide (c ≤ r.2)) || inR c l
theorem inR_drop (c : Int) (l : List (Int × Int)) (i : Nat) (h : i < l.length) : inR c (l.drop i) = ((decide (l[i].1 ≤ c) && decide (c ≤ l[i].2)) || inR c (l.drop (i + 1))) := by
  rw [List.drop_eq_getElem_cons h]; rfl
/-- Ranges in memory. -/
def RngW (l : List (Int × Int)) (b : Nat) (w : World) : Prop :=
  ∀ i (h : i < l.length), w.cell? ⟨b, i * 2, none⟩ = some (.int .i64 l[i].1) ∧ w.cell? ⟨b, i * 2 + 1, none⟩ = some (.int .i64 l[i].2)
theorem among_any (c : Int) (b : Nat) (l : List (Int × Int)) (hn : l.length ≤ 1000) (w : World) (hr : RngW l b w) (hb : b < w.heap.size) :
    Calls Tryz.prog 53 #[.int .i64 c, .slice (some ⟨b, 0, none⟩) l.length l.length] w fun e w' => e = .returned (.bool (inR c l)) ∧ Below w.heap.size w w' := by
  obtain ⟨ANS, hA⟩ : ∃ a, inR c l = a := ⟨_, rfl⟩
  rw [hA]
  have HA := Lib.hid hA
  have HR := Lib.hid hr
  have HN := Lib.hid hn
  have hlm : (l.length : Int) < 9223372036854775807 := by omega
  clear hA hr hn
  go_enter Tryz.func53, Tryz.ntmps53
  go_wp2_with fail
  clear hlm
  go_loopg [9] l.length (fun kx s9 wr => ∃ i : Nat, s9 = .int .i64 (i : Int) ∧ i ≤ l.length ∧ l.length - i ≤ kx ∧ Hid (Below w.heap.size w wr ∧ inR c (l.drop i) = ANS))
  case atStart => exact ⟨0, rfl, by omega, by omega, ⟨Below.refl _ _, HA.out⟩⟩
  case round =>
    obtain ⟨i, rfl, hi, hkx, HW⟩ := hrel
    by_cases hlt : i < l.length
    · obtain ⟨x0, x1⟩ := HR.out i hlt
      have hst := inR_drop c l i hlt
      have k0 : wr.cell? ⟨b, i * 2, none⟩ = some (.int .i64 l[i].1) := (HW.out.1.cell (by exact hb)).trans x0
      have k1 : wr.cell? ⟨b, i * 2 + 1, none⟩ = some (.int .i64 l[i].2) := (HW.out.1.cell (by exact hb)).trans x1
      generalize l[i].1 = lo at k0 hst
      generalize l[i].2 = hi' at k1 hst
      have HST := Lib.hid hst
      have HI := Lib.hid (And.intro hlt hkx)
      have p1 : decide ((0 : Int) ≤ (i : Int)) = true := decide_eq_true (by omega)
      have q1 : decide ((i : Int) < (l.length : Int)) = true := decide_eq_true (by omega)
      have p2 := eq_true (show (0 : Int) ≤ (i : Int) by omega)
      have q2 := eq_true (show (i : Int) < (l.length : Int) by omega)
      clear hst hi hkx x0 x1 hlt
      have HB2 := Lib.hid (HW.out.1.alloc (o := .cells #[.int .i64 lo, .int .i64 hi'] 91) (HW.out.1.size))
      by_cases h1 : lo ≤ c
      · by_cases h2 : c ≤ hi'
        · go_wp2_with fail
          go_ret
          refine ⟨?_, HB2.out⟩
          have := HW.out.2
          rw [HST.out, decide_eq_true h1, decide_eq_true h2] at this
          rw [← this]; rfl
        · have hst2 : inR c (l.drop (i + 1)) = ANS := by have := HW.out.2; rw [HST.out, decide_eq_false h2, Bool.and_false, Bool.false_or] at this; exact this
          have HS2 := Lib.hid hst2
          clear hst2
          go_wp2_with fail
          go_roundg (l.length - (i + 1))
          case measure => have := HI.out; omega
          case rel => exact ⟨i + 1, by rw [Go.IntWalk.wrap64_in _ (by have := HI.out; have := HN.out; omega)]; rfl, by have := HI.out; omega, Nat.le_refl _, ⟨HB2.out, HS2.out⟩⟩
      · have hst2 : inR c (l.drop (i + 1)) = ANS := by have := HW.out.2; rw [HST.out, decide_eq_false h1, Bool.false_and, Bool.false_or] at this; exact this
        have HS2 := Lib.hid hst2
        clear hst2
        go_wp2_with fail
        go_roundg (l.length - (i + 1))
        case measure => have := HI.out; omega
        case rel => exact ⟨i + 1, by rw [Go.IntWalk.wrap64_in _ (by have := HI.out; have := HN.out; omega)]; rfl, by have := HI.out; omega, Nat.le_refl _, ⟨HB2.out, HS2.out⟩⟩
    · obtain rfl : i = l.length := by omega
      have q1 : decide ((l.length : Int) < (l.length : Int)) = false := decide_eq_false (by omega)
      have hf : ANS = false := by have := HW.out.2; rw [List.drop_length] at this; exact this.symm
      have HF := Lib.hid hf
      clear hi hkx hlt hf
      go_wp2_with fail
      go_ret
      exact ⟨by rw [HF.out]; rfl, HW.out.1⟩
/-- glyph.Char. -/
def charR : List (Int × Int) := [(9, 10), (13, 13), (32, 55295), (57344, 65533), (65536, 1114111)]
def charV (c : Int) : Bool := inR c charR
theorem char_any (c : Int) (w : World) :
    Calls Tryz.prog 35 #[.int .i64 c] w fun e w' => e = .returned (.bool (charV c)) ∧ Below w.heap.size w w' := by
  have C := among_any c w.heap.size charR (by decide) (w.alloc (.cells #[.int .i64 9, .int .i64 10, .int .i64 13, .int .i64 13, .int .i64 32, .int .i64 55295, .int .i64 57344, .int .i64 65533, .int .i64 65536, .int .i64 1114111] 91)) (by
    intro i hi
    have hb := heap_alloc_new w (.cells #[.int .i64 9, .int .i64 10, .int .i64 13, .int .i64 13, .int .i64 32, .int .i64 55295, .int .i64 57344, .int .i64 65533, .int .i64 65536, .int .i64 1114111] 91)
    match i, hi with
    | 0, _ => exact ⟨(cellAt hb 0).trans rfl, (cellAt hb 1).trans rfl⟩
    | 1, _ => exact ⟨(cellAt hb 2).trans rfl, (cellAt hb 3).trans rfl⟩
    | 2, _ => exact ⟨(cellAt hb 4).trans rfl, (cellAt hb 5).trans rfl⟩
    | 3, _ => exact ⟨(cellAt hb 6).trans rfl, (cellAt hb 7).trans rfl⟩
    | 4, _ => exact ⟨(cellAt hb 8).trans rfl, (cellAt hb 9).trans rfl⟩
    | _ + 5, h => exact absurd h (by simp [charR])) (by simp)
  have HC := Lib.hid C
  clear C
  go_enter Tryz.func35, Tryz.ntmps35
  go_wp2_with (go_at_call 53; refine HC.out.mono ?_)
  rintro e w2 ⟨rfl, hb⟩
  go_wp2_with fail
  go_ret
  exact ⟨rfl, ((Below.refl _ _).alloc (Nat.le_refl _) _).trans (hb.mono (by simp))⟩
end Go.Proofs.YtdcgcccaaooclaaGreatDoor.At
end
section
/- escape.named: what a reference is, or a panic. -/
set_option linter.unusedVariables false
set_option linter.unusedSimpArgs false
set_option maxRecDepth 20000
namespace Go.Proofs.YtdcgcccaaooclaaGreatDoor.Rep
open Go.RowKit Go.Lib Go.Proofs.YtdcgcccaaooclaaGreatDoorW.PrintWords Go.Proofs.YtdcgcccaaooclaaGreatDoorW.PrintLast Go.Proofs.YtdcgcccaaooclaaGreatDoorW.PrintMore
open Go.ChangeMaps (setBlock)
theorem sb_same {w : World} {b : Nat} {o : Obj} (h : w.heap[b]? = some o) (o' : Obj) : (setBlock w b o').heap[b]? = some o' := by
  have hl : b < w.heap.size := (Array.getElem?_eq_some_iff.1 h).1
  simp [setBlock, hl]
theorem sb_other {w : World} {b i : Nat} (o : Obj) (_u : Unit) (h : i ≠ b) : (setBlock w b o).heap[i]? = w.heap[i]? := by
  simp [setBlock, Ne.symm h]
/-- The names. -/
def namL : List (ByteArray × Int) := [(⟨#[108, 116]⟩, 60), (⟨#[103, 116]⟩, 62), (⟨#[97, 109, 112]⟩, 38), (⟨#[113, 117, 111, 116]⟩, 34), (⟨#[97, 112, 111, 115]⟩, 39)]
def entsN : Nat → List (ByteArray × Int) → List MapEntry
  | _, [] => []
  | i, r :: l => ⟨.string r.1, .int .i32 r.2, i⟩ :: entsN (i + 1) l
theorem entsN_append (l m : List (ByteArray × Int)) : ∀ i, entsN i (l ++ m) = entsN i l ++ entsN (i + l.length) m := by
  induction l with
  | nil => intro i; rfl
  | cons r l ih => intro i; simp only [List.cons_append, entsN, ih, List.length_cons]; rw [show i + 1 + l.length = i + (l.length + 1) by omega]
theorem entsN_mem {l : List (ByteArray × Int)} : ∀ {i : Nat} {e : MapEntry}, e ∈ entsN i l → ∃ r ∈ l, e.key = .string r.1 ∧ e.val = .int .i32 r.2 := by
  induction l with
  | nil => intro i e h; simp [entsN] at h
  | cons r l ih =>
    intro i e h
    rcases List.mem_cons.1 h with rfl | h
    · exact ⟨r, List.mem_cons_self .., rfl, rfl⟩
    · obtain ⟨r', h1, h2, h3⟩ := ih h
      exact ⟨r', List.mem_cons_of_mem _ h1, h2, h3⟩
theorem entsN_of {l : List (ByteArray × Int)} : ∀ {i : Nat} {r : ByteArray × Int}, r ∈ l → ∃ e ∈ entsN i l, e.key = .string r.1 := by
  induction l with
  | nil => intro i r h; simp at h
  | cons r0 l ih =>
    intro i r h
    rcases List.mem_cons.1 h with rfl | h
    · exact ⟨_, List.mem_cons_self .., rfl⟩
    · obtain ⟨e, h1, h2⟩ := ih (i := i + 1) h
      exact ⟨e, List.mem_cons_of_mem _ h1, h2⟩
def NamM (b : Nat) (l : List (ByteArray × Int)) (w : World) : Prop := ∃ es : Array MapEntry, w.heap[b]? = some (.map es l.length) ∧ es.toList = entsN 0 l
theorem law9 : Go.WideMaps.KeyLaw Tryz.prog 9 := Go.WideMaps.string_law Tryz.underlying9
theorem key9 (s : ByteArray) (h : s.size ≤ 1000000000) : ∃ l, keyOf Tryz.prog 9 (.string s) = some l := ⟨_, Go.WideMaps.keyOf_string_mk Tryz.underlying9 (by unfold maxLen; omega)⟩
theorem nam_new (w : World) : NamM w.heap.size [] (w.alloc (.map #[] 0)) := ⟨#[], heap_alloc_new _ _, rfl⟩
theorem nam_ins {b : Nat} {l : List (ByteArray × Int)} {w : World} (h : NamM b l w) (r : ByteArray × Int) (hn : ∀ q ∈ l, q.1 ≠ r.1) (hs : ∀ q ∈ l, q.1.size ≤ 1000000000) (hr : r.1.size ≤ 1000000000) :
    ∃ w', (Instr.mapUpdate 68 (.map (some b)) (.string r.1) (.int .i32 r.2)).run Tryz.prog w = .ok () w' ∧ NamM b (l ++ [r]) w' ∧ w.grownBy w' (some b) ∧ w'.heap.size = w.heap.size := by
  obtain ⟨es, hb, he⟩ := h
  obtain ⟨kl, hk⟩ := key9 r.1 hr
  have hks : ∀ e ∈ es.toList, ∃ l, keyOf Tryz.prog 9 e.key = some l := fun e hm => by
    rw [he] at hm
    obtain ⟨q, hq, h1, _⟩ := entsN_mem hm
    rw [h1]; exact key9 _ (hs q hq)
  rcases law9.find w hk es.toList hks with ⟨h1, _⟩ | ⟨j, e, _, h8, h9⟩
  · refine ⟨setBlock w b (.map (es.push ⟨.string r.1, .int .i32 r.2, l.length⟩) (l.length + 1)), ?_, ⟨es.push ⟨.string r.1, .int .i32 r.2, l.length⟩, ?_, ?_⟩, ⟨rfl, rfl, rfl, by simp [setBlock], fun k _ hne => sb_other _ () (fun e => hne (by rw [e]))⟩, by simp [setBlock]⟩
    · simp [Instr.mapUpdate, run_underlying Tryz.underlying68, MapKept.run_getObj_map hb, law9.check w false hk, h1, MapKept.run_setObj_map _ hb, Result.andThen, setBlock]
    · rw [List.length_append]; exact sb_same hb _
    · rw [Array.toList_push, he, entsN_append, Nat.zero_add]; rfl
  · exfalso
    have hm := List.mem_of_getElem? h8
    rw [he] at hm
    obtain ⟨q, hq, h2, _⟩ := entsN_mem hm
    rw [h2] at h9
    exact hn q hq (by injection h9)
theorem nam_built (b : Nat) (w : World) (h0 : NamM b [] w) : ∃ W1 W2 W3 W4 W5,
    (Instr.mapUpdate 68 (.map (some b)) (.string ⟨#[108, 116]⟩) (.int .i32 60)).run Tryz.prog w = .ok () W1 ∧
    (Instr.mapUpdate 68 (.map (some b)) (.string ⟨#[103, 116]⟩) (.int .i32 62)).run Tryz.prog W1 = .ok () W2 ∧
    (Instr.mapUpdate 68 (.map (some b)) (.string ⟨#[97, 109, 112]⟩) (.int .i32 38)).run Tryz.prog W2 = .ok () W3 ∧
    (Instr.mapUpdate 68 (.map (some b)) (.string ⟨#[113, 117, 111, 116]⟩) (.int .i32 34)).run Tryz.prog W3 = .ok () W4 ∧
    (Instr.mapUpdate 68 (.map (some b)) (.string ⟨#[97, 112, 111, 115]⟩) (.int .i32 39)).run Tryz.prog W4 = .ok () W5 ∧
    NamM b namL W5 ∧ w.grownBy W5 (some b) ∧ W5.heap.size = w.heap.size := by
  obtain ⟨W1, e1, h1, g1, s1⟩ := nam_ins h0 (⟨#[108, 116]⟩, 60) (by simp) (by simp) (by decide)
  obtain ⟨W2, e2, h2, g2, s2⟩ := nam_ins h1 (⟨#[103, 116]⟩, 62) (by decide) (by decide) (by decide)
  obtain ⟨W3, e3, h3, g3, s3⟩ := nam_ins h2 (⟨#[97, 109, 112]⟩, 38) (by decide) (by decide) (by decide)
  obtain ⟨W4, e4, h4, g4, s4⟩ := nam_ins h3 (⟨#[113, 117, 111, 116]⟩, 34) (by decide) (by decide) (by decide)
  obtain ⟨W5, e5, h5, g5, s5⟩ := nam_ins h4 (⟨#[97, 112, 111, 115]⟩, 39) (by decide) (by decide) (by decide)
  exact ⟨W1, W2, W3, W4, W5, e1, e2, e3, e4, e5, h5, (((g1.trans g2).trans g3).trans g4).trans g5, by rw [s5, s4, s3, s2, s1]⟩
/-- What a name is. -/
def namV (s : ByteArray) : Option Int := (namL.find? fun p => decide (p.1 = s)).map (·.2)
theorem nam_size : ∀ q ∈ namL, q.1.size ≤ 1000000000 := by decide
theorem namV_mem : ∀ q ∈ namL, namV q.1 = some q.2 := by decide
theorem nam_look {b : Nat} {w : World} (h : NamM b namL w) (s : ByteArray) (hs : s.size ≤ 1000000000) :
    (Instr.lookup 68 (.map (some b)) (.string s) true).run Tryz.prog w = .ok (match namV s with | some v => .tuple #[.int .i32 v, .bool true] | none => .tuple #[.int .i32 0, .bool false]) w := by
  obtain ⟨es, hb, he⟩ := h
  obtain ⟨kl, hk⟩ := key9 s hs
  have hks : ∀ e ∈ es.toList, ∃ l, keyOf Tryz.prog 9 e.key = some l := fun e hm => by
    rw [he] at hm
    obtain ⟨q, hq, h1, _⟩ := entsN_mem hm
    rw [h1]; exact key9 _ (nam_size q hq)
  have hz := Tryz.zeroValue21
  rcases law9.find w hk es.toList hks with ⟨h1, h2⟩ | ⟨j, e, h1, h2, h3⟩
  · have hn : namV s = none := by
      unfold namV
      rw [Option.map_eq_none_iff, List.find?_eq_none]
      intro p hp hps
      obtain ⟨e, h4, h5⟩ := entsN_of (i := 0) hp
      rw [← he] at h4
      exact h2 e h4 (by rw [h5]; congr 1; exact of_decide_eq_true hps)
    rw [hn]
    simp [Instr.lookup, run_underlying Tryz.underlying68, MapKept.run_getObj_map hb, law9.check w _ hk, h1, hz, Result.andThen]
  · have hm := List.mem_of_getElem? h2
    rw [he] at hm
    obtain ⟨q, hq, h4, h5⟩ := entsN_mem hm
    have hqs : q.1 = s := by rw [h4] at h3; injection h3
    have hn : namV s = some q.2 := by
      rw [← hqs]
      exact namV_mem q hq
    rw [hn]
    simp [Instr.lookup, run_underlying Tryz.underlying68, MapKept.run_getObj_map hb, law9.check w _ hk, h1, h5, Result.andThen]
/-- The digits' text. -/
def hexS : List UInt8 := [48, 49, 50, 51, 52, 53, 54, 55, 56, 57, 97, 98, 99, 100, 101, 102, 65, 66, 67, 68, 69, 70]
theorem hex_mem (c : UInt8) : hexS.contains c = hexB c := by
  have H : ∀ n : Fin 256, hexS.contains (UInt8.ofNat n.val) = hexB (UInt8.ofNat n.val) := by decide +kernel
  have h := H ⟨c.toNat, c.toNat_lt⟩
  simpa only [UInt8.ofNat_toNat] using h
theorem dropWhile_nil {α : Type} (p : α → Bool) (l : List α) : l.dropWhile p = [] ↔ ∀ c ∈ l, p c = true := by
  induction l with
  | nil => simp
  | cons a l ih =>
    rw [List.dropWhile_cons]
    split
    · rw [ih]; simp [*]
    · simp [*]
theorem dropWhile_head {α : Type} (p : α → Bool) (l : List α) (a : α) (t : List α) (h : l.dropWhile p = a :: t) : p a = false := by
  induction l with
  | nil => simp at h
  | cons b l ih =>
    rw [List.dropWhile_cons] at h
    split at h
    · exact ih h
    · injection h with h1 h2
      subst h1
      simpa using ‹¬ p b = true›
theorem trim_hex (l : List UInt8) : Lib.trimS l hexS = [] ↔ ∀ c ∈ l, hexB c = true := by
  have h1 : ∀ (l : List UInt8), Lib.trimLeftS l hexS = [] ↔ ∀ c ∈ l, hexB c = true := fun l => by
    unfold Lib.trimLeftS
    rw [dropWhile_nil]
    simp only [hex_mem]
  have h2 : ∀ (l : List UInt8), Lib.trimRightS l hexS = [] ↔ ∀ c ∈ l, hexB c = true := fun l => by
    unfold Lib.trimRightS
    rw [List.reverse_eq_nil_iff, dropWhile_nil]
    simp only [hex_mem, List.mem_reverse]
  unfold Lib.trimS
  constructor
  · intro h
    rw [h1] at h
    by_cases hr : Lib.trimRightS l hexS = []
    · exact (h2 l).1 hr
    · exfalso
      unfold Lib.trimRightS at hr h
      cases hd : l.reverse.dropWhile (hexS.contains ·) with
      | nil => rw [hd] at hr; exact hr rfl
      | cons a t =>
        have h3 := dropWhile_head _ _ _ _ hd
        rw [hd] at h
        have h4 := h a (by simp)
        rw [hex_mem, h4] at h3
        cases h3
  · intro h
    rw [(h2 l).2 h]; rfl
/-- A number's text, if it may be. -/
def chrV (o : Option Nat) : Option ByteArray := match o with
  | some n => if At.charV (n : Int) = true then some (Utf8.encode (n : Int)) else none
  | none => none
def digR (b : Nat) (d : List UInt8) : Option ByteArray := if d.all hexB = true then chrV (numO b ⟨d.toArray⟩) else none
/-- What a reference of digits is. -/
def refR : List UInt8 → Option ByteArray
  | 35 :: 120 :: d => digR 16 d
  | 35 :: d => digR 10 d
  | _ => none
/-- What a reference is, if it is one. -/
def namR (s : ByteArray) : Option ByteArray := match namV s with
  | some v => some (Utf8.encode v)
  | none => refR s.data.toList
def CutE (b : Bool) (e : Ending) : Prop := ∃ r, e = .returned (.tuple #[.string r, .bool b])
/-- What named comes to. -/
def NamE (o : Option ByteArray) (e : Ending) : Prop := match o with
  | some t => e = .returned (.string t)
  | none => e = .panicked [{ v := .iface 23 (.int .i64 60), recovered := false }]
theorem cut_no (s : ByteArray) (c : UInt8) (w : World) (h : Lib.hasPrefix s.data.toList [c] = false) :
    Calls Tryz.prog 32 #[.string s, .string ⟨#[c]⟩] w fun e w' => e = .returned (.tuple #[.string s, .bool false]) ∧ Below w.heap.size w w' := by
  have h1 := At.strings_CutPrefix.calls s ⟨#[c]⟩ _ _ w rfl
  rw [show (⟨#[c]⟩ : ByteArray).data.toList = [c] from rfl] at h1
  unfold Lib.trimPrefix at h1
  rw [h] at h1
  exact h1
theorem cut_yes (s : ByteArray) (c : UInt8) (d : List UInt8) (w : World) (h : s.data.toList = c :: d) :
    Calls Tryz.prog 32 #[.string s, .string ⟨#[c]⟩] w fun e w' => e = .returned (.tuple #[.string ⟨d.toArray⟩, .bool true]) ∧ Below w.heap.size w w' := by
  have h1 := At.strings_CutPrefix.calls s ⟨#[c]⟩ _ _ w rfl
  rw [show (⟨#[c]⟩ : ByteArray).data.toList = [c] from rfl, h] at h1
  have hp : Lib.hasPrefix (c :: d) [c] = true := by simp [Lib.hasPrefix]
  unfold Lib.trimPrefix at h1
  rw [hp] at h1
  exact h1
theorem trim_c (d : List UInt8) (hs : d.length ≤ 1000000000) (w : World) :
    Calls Tryz.prog 33 #[.string ⟨d.toArray⟩, .string ⟨#[48, 49, 50, 51, 52, 53, 54, 55, 56, 57, 97, 98, 99, 100, 101, 102, 65, 66, 67, 68, 69, 70]⟩] w fun e w' => e = .returned (.string ⟨(Lib.trimS d hexS).toArray⟩) ∧ Below w.heap.size w w' := by
  refine At.strings_Trim.calls _ _ _ w ?_
  unfold At.strings_Trim.f
  have hs' : (⟨d.toArray⟩ : ByteArray).size ≤ 9223372036854775807 := by show d.toArray.size ≤ _; rw [List.size_toArray]; omega
  rw [if_pos ⟨hs', by decide, by decide⟩]
  rfl
theorem nnp (p : Value) (w : World) : (binOp .neq 45 (.iface 119 p) .nilIface).run Tryz.prog w = .ok (.bool true) w := by kernel_rfl
theorem charV_le {c : Int} (h : At.charV c = true) : 0 ≤ c ∧ c ≤ 1114111 := by
  simp only [At.charV, At.charR, At.inR, Bool.or_eq_true, Bool.and_eq_true, decide_eq_true_eq, Bool.or_false] at h
  omega
theorem map_made (w : World) : (Instr.makeMap 68 none).run Tryz.prog w = .ok (.map (some w.heap.size)) (w.alloc (.map #[] 0)) := by kernel_rfl
set_option maxHeartbeats 4000000 in
theorem named_some (s : ByteArray) (hs : s.size ≤ 1000000000) (w : World) (v : Int) (hv : namV s = some v) :
    Calls Tryz.prog 25 #[.string s] w fun e w' => NamE (some (Utf8.encode v)) e ∧ Below w.heap.size w w' := by
  obtain ⟨W1, W2, W3, W4, W5, e1, e2, e3, e4, e5, hM, hg, hz⟩ := nam_built w.heap.size (w.alloc (.map #[] 0)) (nam_new w)
  have hlk := nam_look hM s hs
  have HB5 := Lib.hid (show Below w.heap.size w W5 from ((Below.refl w.heap.size w).alloc (Nat.le_refl _) _).grown hg (by simp) (fun k hk => by injection hk with h; omega))
  have hmm := map_made
  rw [hv] at hlk
  clear hM hg hz
  clear hs hv
  go_enter Tryz.func25, Tryz.ntmps25
  go_wp2_with fail
  go_ret
  exact ⟨rfl, HB5.out⟩
set_option maxHeartbeats 4000000 in
theorem named_no (s : ByteArray) (hs : s.size ≤ 1000000000) (w : World) (hv : namV s = none) (hp : Lib.hasPrefix s.data.toList [35] = false) :
    Calls Tryz.prog 25 #[.string s] w fun e w' => NamE none e ∧ Below w.heap.size w w' := by
  obtain ⟨W1, W2, W3, W4, W5, e1, e2, e3, e4, e5, hM, hg, hz⟩ := nam_built w.heap.size (w.alloc (.map #[] 0)) (nam_new w)
  have hlk := nam_look hM s hs
  have HB5 := Lib.hid (show Below w.heap.size w W5 from ((Below.refl w.heap.size w).alloc (Nat.le_refl _) _).grown hg (by simp) (fun k hk => by injection hk with h; omega))
  have hmm := map_made
  rw [hv] at hlk
  clear hM hg hz
  have C1 := Lib.hid (cut_no s 35 W5 hp)
  clear hs hv hp
  go_enter Tryz.func25, Tryz.ntmps25
  go_wp2_with (first | (go_at_call 32; refine C1.out.mono ?_))
  intro e w6; first | (rintro rfl hb) | (rintro ⟨rfl, hb⟩)
  have HB6 := Lib.hid (HB5.out.trans (hb.mono HB5.out.size))
  clear hb
  have C2 : Hid (∃ q, Calls Tryz.prog 32 #[.string s, .string ⟨#[120]⟩] w6 fun e w' => CutE q e ∧ Below w6.heap.size w6 w') := Lib.hid ⟨_, (At.strings_CutPrefix.calls s ⟨#[120]⟩ _ _ w6 rfl).mono fun e w' h => ⟨⟨_, h.1⟩, h.2⟩⟩
  obtain ⟨q, c2⟩ := C2.out
  have C2' := Lib.hid c2
  clear c2 C2
  go_wp2_with (first | (go_at_call 32; refine C2'.out.mono ?_))
  intro e w7
  first | (rintro ⟨r2, rfl⟩ hb) | (rintro ⟨⟨r2, rfl⟩, hb⟩)
  have HB7 := Lib.hid (HB6.out.trans (hb.mono HB6.out.size))
  clear hb
  cases q
  all_goals
    go_wp2_with fail
    exact ⟨rfl, rfl, HB7.out⟩
set_option maxHeartbeats 4000000 in
theorem named_16 (s : ByteArray) (hs : s.size ≤ 1000000000) (w : World) (hE : LaidE w) (hv : namV s = none) (d : List UInt8) (hl : s.data.toList = 35 :: 120 :: d) :
    Calls Tryz.prog 25 #[.string s] w fun e w' => NamE (digR 16 d) e ∧ Below w.heap.size w w' := by
  obtain ⟨W1, W2, W3, W4, W5, e1, e2, e3, e4, e5, hM, hg, hz⟩ := nam_built w.heap.size (w.alloc (.map #[] 0)) (nam_new w)
  have hlk := nam_look hM s hs
  have HB5 := Lib.hid (show Below w.heap.size w W5 from ((Below.refl w.heap.size w).alloc (Nat.le_refl _) _).grown hg (by simp) (fun k hk => by injection hk with h; omega))
  have hmm := map_made
  rw [hv] at hlk
  clear hM hg hz
  have HE := Lib.hid hE
  have hdl : d.length ≤ 1000000000 := by
    have h := congrArg List.length hl
    rw [Array.length_toList] at h
    have h2 : s.data.size ≤ 1000000000 := hs
    simp only [List.length_cons] at h
    omega
  have C1 := Lib.hid (cut_yes s 35 _ W5 hl)
  have C2 := Lib.hid (fun w => cut_yes ⟨(120 :: d).toArray⟩ 120 d w rfl)
  have C3 := Lib.hid (trim_c d hdl)
  have HDL := Lib.hid hdl
  have np := nnp
  have n0 := neqnn
  by_cases ha : d.all hexB = true
  · have hh : ∀ c ∈ d, hexB c = true := List.all_eq_true.1 ha
    rw [show (⟨(Lib.trimS d hexS).toArray⟩ : ByteArray) = ⟨#[]⟩ by rw [(trim_hex d).2 hh]] at C3
    have HP := Lib.hid (fun w (h : LaidE w) => parseInt16 ⟨d.toArray⟩ (by show d.toArray.size ≤ _; rw [List.size_toArray]; exact HDL.out) hh w h)
    have hR : digR 16 d = chrV (numO 16 ⟨d.toArray⟩) := by unfold digR; rw [if_pos ha]
    rw [hR]
    obtain ⟨R, hRR⟩ : ∃ R, numO 16 ⟨d.toArray⟩ = R := ⟨_, rfl⟩
    rw [hRR] at HP ⊢
    obtain ⟨D, hD⟩ : ∃ D : ByteArray, D = ⟨d.toArray⟩ := ⟨_, rfl⟩
    rw [← hD] at C3 HP C2
    obtain ⟨D2, hD2⟩ : ∃ D : ByteArray, D = ⟨(120 :: d).toArray⟩ := ⟨_, rfl⟩
    rw [← hD2] at C1 C2
    clear hs hE hl ha hh hR hRR hdl hv hD2 hD
    go_enter Tryz.func25, Tryz.ntmps25
    go_wp2_with (first | (go_at_call 32; refine C1.out.mono ?_))
    intro e w6; first | (rintro rfl hb) | (rintro ⟨rfl, hb⟩)
    have HB6 := Lib.hid (HB5.out.trans (hb.mono HB5.out.size))
    clear hb
    go_wp2_with (first | (go_at_call 32; refine (C2.out _).mono ?_))
    intro e w7; first | (rintro rfl hb) | (rintro ⟨rfl, hb⟩)
    have HB7 := Lib.hid (HB6.out.trans (hb.mono HB6.out.size))
    clear hb
    go_wp2_with (first | (go_at_call 33; refine (C3.out _).mono ?_))
    intro e w8; first | (rintro rfl hb) | (rintro ⟨rfl, hb⟩)
    have HB8 := Lib.hid (HB7.out.trans (hb.mono HB7.out.size))
    have HE8 := Lib.hid (HE.out.below HB8.out)
    clear hb
    go_wp2_with (first | (go_at_call 34; refine (HP.out _ HE8.out).mono ?_))
    cases R with
    | none =>
      intro e w9; first | (rintro ⟨v, p, rfl⟩ hb) | (rintro ⟨⟨v, p, rfl⟩, hb⟩)
      have HB9 := Lib.hid (HB8.out.trans (hb.mono HB8.out.size))
      clear hb
      go_wp2_with fail
      exact ⟨rfl, rfl, HB9.out⟩
    | some n =>
      intro e w9; first | (rintro rfl hb) | (rintro ⟨rfl, hb⟩)
      have HB9 := Lib.hid (HB8.out.trans (hb.mono HB8.out.size))
      clear hb
      have C5 := Lib.hid (At.char_any (n : Int))
      cases hc : At.charV (n : Int) with
      | false =>
        have HR := Lib.hid (show chrV (some n) = none by show (if At.charV n = true then some (Utf8.encode n) else none) = _; rw [hc]; rfl)
        rw [hc] at C5
        clear hc
        go_wp2_with (first | (go_at_call 35; refine (C5.out _).mono ?_))
        intro e w10; first | (rintro rfl hb) | (rintro ⟨rfl, hb⟩)
        have HB10 := Lib.hid (HB9.out.trans (hb.mono HB9.out.size))
        clear hb
        go_wp2_with fail
        exact ⟨rfl, by rw [HR.out]; rfl, HB10.out⟩
      | true =>
        have hle := charV_le hc
        have HR := Lib.hid (show chrV (some n) = some (Utf8.encode (wrap32 n)) by show (if At.charV n = true then some (Utf8.encode n) else none) = _; rw [if_pos hc, Go.IntWalk.wrap32_in _ (by omega)])
        rw [hc] at C5
        clear hc hle
        go_wp2_with (first | (go_at_call 35; refine (C5.out _).mono ?_))
        intro e w10; first | (rintro rfl hb) | (rintro ⟨rfl, hb⟩)
        have HB10 := Lib.hid (HB9.out.trans (hb.mono HB9.out.size))
        clear hb
        go_wp2_with fail
        go_ret
        exact ⟨by rw [HR.out]; rfl, HB10.out⟩
  · have hne : Lib.trimS d hexS ≠ [] := fun h => ha (List.all_eq_true.2 ((trim_hex d).1 h))
    obtain ⟨T, hT⟩ : ∃ T : ByteArray, T = ⟨(Lib.trimS d hexS).toArray⟩ := ⟨_, rfl⟩
    have ht0 : T.toList ≠ [] := by rw [hT, ByteArray.toList_eq]; exact hne
    have ht1 : (T.toList == ([] : List UInt8)) = false := by cases h : T.toList with | nil => exact absurd h ht0 | cons a l => rfl
    have ht2 : T.toList.isEmpty = false := by cases h : T.toList with | nil => exact absurd h ht0 | cons a l => rfl
    rw [← hT] at C3
    have HR := Lib.hid (show digR 16 d = none by unfold digR; rw [if_neg ha])
    obtain ⟨D, hD⟩ : ∃ D : ByteArray, D = ⟨d.toArray⟩ := ⟨_, rfl⟩
    rw [← hD] at C3 C2
    obtain ⟨D2, hD2⟩ : ∃ D : ByteArray, D = ⟨(120 :: d).toArray⟩ := ⟨_, rfl⟩
    rw [← hD2] at C1 C2
    clear hs hE hl ha hdl hv hD2 hD hT hne
    go_enter Tryz.func25, Tryz.ntmps25
    go_wp2_with (first | (go_at_call 32; refine C1.out.mono ?_))
    intro e w6; first | (rintro rfl hb) | (rintro ⟨rfl, hb⟩)
    have HB6 := Lib.hid (HB5.out.trans (hb.mono HB5.out.size))
    clear hb
    go_wp2_with (first | (go_at_call 32; refine (C2.out _).mono ?_))
    intro e w7; first | (rintro rfl hb) | (rintro ⟨rfl, hb⟩)
    have HB7 := Lib.hid (HB6.out.trans (hb.mono HB6.out.size))
    clear hb
    go_wp2_with (first | (go_at_call 33; refine (C3.out _).mono ?_))
    intro e w8; first | (rintro rfl hb) | (rintro ⟨rfl, hb⟩)
    have HB8 := Lib.hid (HB7.out.trans (hb.mono HB7.out.size))
    clear hb
    go_wp2_with fail
    exact ⟨rfl, by rw [HR.out]; rfl, HB8.out⟩
set_option maxHeartbeats 4000000 in
theorem named_10 (s : ByteArray) (hs : s.size ≤ 1000000000) (w : World) (hE : LaidE w) (hv : namV s = none) (d : List UInt8) (hl : s.data.toList = 35 :: d) (hx : Lib.hasPrefix d [120] = false) :
    Calls Tryz.prog 25 #[.string s] w fun e w' => NamE (digR 10 d) e ∧ Below w.heap.size w w' := by
  obtain ⟨W1, W2, W3, W4, W5, e1, e2, e3, e4, e5, hM, hg, hz⟩ := nam_built w.heap.size (w.alloc (.map #[] 0)) (nam_new w)
  have hlk := nam_look hM s hs
  have HB5 := Lib.hid (show Below w.heap.size w W5 from ((Below.refl w.heap.size w).alloc (Nat.le_refl _) _).grown hg (by simp) (fun k hk => by injection hk with h; omega))
  have hmm := map_made
  rw [hv] at hlk
  clear hM hg hz
  have HE := Lib.hid hE
  have hdl : d.length ≤ 1000000000 := by
    have h := congrArg List.length hl
    rw [Array.length_toList] at h
    have h2 : s.data.size ≤ 1000000000 := hs
    simp only [List.length_cons] at h
    omega
  have C1 := Lib.hid (cut_yes s 35 _ W5 hl)
  have C2 := Lib.hid (fun w => cut_no ⟨d.toArray⟩ 120 w hx)
  have C3 := Lib.hid (trim_c d hdl)
  have HDL := Lib.hid hdl
  have np := nnp
  have n0 := neqnn
  by_cases ha : d.all hexB = true
  · have hh : ∀ c ∈ d, hexB c = true := List.all_eq_true.1 ha
    rw [show (⟨(Lib.trimS d hexS).toArray⟩ : ByteArray) = ⟨#[]⟩ by rw [(trim_hex d).2 hh]] at C3
    have HP := Lib.hid (fun w (h : LaidE w) => parseInt10 ⟨d.toArray⟩ (by show d.toArray.size ≤ _; rw [List.size_toArray]; exact HDL.out) hh w h)
    have hR : digR 10 d = chrV (numO 10 ⟨d.toArray⟩) := by unfold digR; rw [if_pos ha]
    rw [hR]
    obtain ⟨R, hRR⟩ : ∃ R, numO 10 ⟨d.toArray⟩ = R := ⟨_, rfl⟩
    rw [hRR] at HP ⊢
    obtain ⟨D, hD⟩ : ∃ D : ByteArray, D = ⟨d.toArray⟩ := ⟨_, rfl⟩
    rw [← hD] at C3 HP C2 C1
    clear hs hE hl ha hh hR hRR hdl hv hx hD
    go_enter Tryz.func25, Tryz.ntmps25
    go_wp2_with (first | (go_at_call 32; refine C1.out.mono ?_))
    intro e w6; first | (rintro rfl hb) | (rintro ⟨rfl, hb⟩)
    have HB6 := Lib.hid (HB5.out.trans (hb.mono HB5.out.size))
    clear hb
    go_wp2_with (first | (go_at_call 32; refine (C2.out _).mono ?_))
    intro e w7; first | (rintro rfl hb) | (rintro ⟨rfl, hb⟩)
    have HB7 := Lib.hid (HB6.out.trans (hb.mono HB6.out.size))
    clear hb
    go_wp2_with (first | (go_at_call 33; refine (C3.out _).mono ?_))
    intro e w8; first | (rintro rfl hb) | (rintro ⟨rfl, hb⟩)
    have HB8 := Lib.hid (HB7.out.trans (hb.mono HB7.out.size))
    have HE8 := Lib.hid (HE.out.below HB8.out)
    clear hb
    go_wp2_with (first | (go_at_call 34; refine (HP.out _ HE8.out).mono ?_))
    cases R with
    | none =>
      intro e w9; first | (rintro ⟨v, p, rfl⟩ hb) | (rintro ⟨⟨v, p, rfl⟩, hb⟩)
      have HB9 := Lib.hid (HB8.out.trans (hb.mono HB8.out.size))
      clear hb
      go_wp2_with fail
      exact ⟨rfl, rfl, HB9.out⟩
    | some n =>
      intro e w9; first | (rintro rfl hb) | (rintro ⟨rfl, hb⟩)
      have HB9 := Lib.hid (HB8.out.trans (hb.mono HB8.out.size))
      clear hb
      have C5 := Lib.hid (At.char_any (n : Int))
      cases hc : At.charV (n : Int) with
      | false =>
        have HR := Lib.hid (show chrV (some n) = none by show (if At.charV n = true then some (Utf8.encode n) else none) = _; rw [hc]; rfl)
        rw [hc] at C5
        clear hc
        go_wp2_with (first | (go_at_call 35; refine (C5.out _).mono ?_))
        intro e w10; first | (rintro rfl hb) | (rintro ⟨rfl, hb⟩)
        have HB10 := Lib.hid (HB9.out.trans (hb.mono HB9.out.size))
        clear hb
        go_wp2_with fail
        exact ⟨rfl, by rw [HR.out]; rfl, HB10.out⟩
      | true =>
        have hle := charV_le hc
        have HR := Lib.hid (show chrV (some n) = some (Utf8.encode (wrap32 n)) by show (if At.charV n = true then some (Utf8.encode n) else none) = _; rw [if_pos hc, Go.IntWalk.wrap32_in _ (by omega)])
        rw [hc] at C5
        clear hc hle
        go_wp2_with (first | (go_at_call 35; refine (C5.out _).mono ?_))
        intro e w10; first | (rintro rfl hb) | (rintro ⟨rfl, hb⟩)
        have HB10 := Lib.hid (HB9.out.trans (hb.mono HB9.out.size))
        clear hb
        go_wp2_with fail
        go_ret
        exact ⟨by rw [HR.out]; rfl, HB10.out⟩
  · have hne : Lib.trimS d hexS ≠ [] := fun h => ha (List.all_eq_true.2 ((trim_hex d).1 h))
    obtain ⟨T, hT⟩ : ∃ T : ByteArray, T = ⟨(Lib.trimS d hexS).toArray⟩ := ⟨_, rfl⟩
    have ht0 : T.toList ≠ [] := by rw [hT, ByteArray.toList_eq]; exact hne
    have ht1 : (T.toList == ([] : List UInt8)) = false := by cases h : T.toList with | nil => exact absurd h ht0 | cons a l => rfl
    have ht2 : T.toList.isEmpty = false := by cases h : T.toList with | nil => exact absurd h ht0 | cons a l => rfl
    rw [← hT] at C3
    have HR := Lib.hid (show digR 10 d = none by unfold digR; rw [if_neg ha])
    obtain ⟨D, hD⟩ : ∃ D : ByteArray, D = ⟨d.toArray⟩ := ⟨_, rfl⟩
    rw [← hD] at C3 C2 C1
    clear hs hE hl ha hdl hv hx hD hT hne
    go_enter Tryz.func25, Tryz.ntmps25
    go_wp2_with (first | (go_at_call 32; refine C1.out.mono ?_))
    intro e w6; first | (rintro rfl hb) | (rintro ⟨rfl, hb⟩)
    have HB6 := Lib.hid (HB5.out.trans (hb.mono HB5.out.size))
    clear hb
    go_wp2_with (first | (go_at_call 32; refine (C2.out _).mono ?_))
    intro e w7; first | (rintro rfl hb) | (rintro ⟨rfl, hb⟩)
    have HB7 := Lib.hid (HB6.out.trans (hb.mono HB6.out.size))
    clear hb
    go_wp2_with (first | (go_at_call 33; refine (C3.out _).mono ?_))
    intro e w8; first | (rintro rfl hb) | (rintro ⟨rfl, hb⟩)
    have HB8 := Lib.hid (HB7.out.trans (hb.mono HB7.out.size))
    clear hb
    go_wp2_with fail
    exact ⟨rfl, by rw [HR.out]; rfl, HB8.out⟩
theorem named_c (s : ByteArray) (hs : s.size ≤ 1000000000) (w : World) (hE : LaidE w) :
    Calls Tryz.prog 25 #[.string s] w fun e w' => NamE (namR s) e ∧ Below w.heap.size w w' := by
  unfold namR
  cases hv : namV s with
  | some v => exact named_some s hs w v hv
  | none =>
    show Calls Tryz.prog 25 #[.string s] w fun e w' => NamE (refR s.data.toList) e ∧ Below w.heap.size w w'
    obtain ⟨l, hl⟩ : ∃ l, s.data.toList = l := ⟨_, rfl⟩
    rw [hl]
    unfold refR
    split
    · rename_i d
      exact named_16 s hs w hE hv d hl
    · rename_i d h
      refine named_10 s hs w hE hv d hl ?_
      cases d with
      | nil => rfl
      | cons a d =>
        cases hc : Lib.hasPrefix (a :: d) [120] with
        | false => rfl
        | true =>
          simp [Lib.hasPrefix] at hc
          exact absurd (by rw [hc]) (h d)
    · rename_i h1 h2
      refine named_no s hs w hv ?_
      rw [hl]
      cases l with
      | nil => rfl
      | cons a l =>
        cases hc : Lib.hasPrefix (a :: l) [35] with
        | false => rfl
        | true =>
          simp [Lib.hasPrefix] at hc
          exact absurd (by rw [hc]) (h2 l)
end Go.Proofs.YtdcgcccaaooclaaGreatDoor.Rep
end
section
/- (*strings.byteStringReplacer).Replace: what it makes of a text, in plain words. -/
set_option linter.unusedVariables false
set_option linter.unusedSimpArgs false
set_option maxRecDepth 20000
namespace Go.Proofs.YtdcgcccaaooclaaGreatDoor.Rep
open Go.RowKit Go.Lib Go.Proofs.YtdcgcccaaooclaaGreatDoorW.PrintWords
/-- What a byte becomes. -/
def outV (l : List (UInt8 × ByteArray)) (c : UInt8) : List UInt8 := match repl l c.toNat with
  | none => [c]
  | some y => y.data.toList
def outS (l : List (UInt8 × ByteArray)) (s : List UInt8) : List UInt8 := s.flatMap (outV l)
def dV (l : List (UInt8 × ByteArray)) (c : UInt8) : Int := match repl l c.toNat with
  | none => 0
  | some y => (y.size : Int) - 1
def sumD (l : List (UInt8 × ByteArray)) (s : List UInt8) : Int := (s.map (dV l)).sum
def sumK (l : List (UInt8 × ByteArray)) (ks s : List UInt8) : Int := (ks.map fun k => (s.count k : Int) * dV l k).sum
def anyV (l : List (UInt8 × ByteArray)) (s : List UInt8) : Bool := s.any fun c => (repl l c.toNat).isSome
theorem outV_len (l : List (UInt8 × ByteArray)) (c : UInt8) : ((outV l c).length : Int) = 1 + dV l c := by
  unfold outV dV
  cases repl l c.toNat with
  | none => rfl
  | some y =>
    have : y.data.toList.length = y.size := by rw [Array.length_toList]; rfl
    simp only [this]
    omega
theorem out_len (l : List (UInt8 × ByteArray)) (s : List UInt8) : ((outS l s).length : Int) = s.length + sumD l s := by
  induction s with
  | nil => rfl
  | cons c s ih =>
    have e : outS l (c :: s) = outV l c ++ outS l s := by simp [outS]
    have e2 : sumD l (c :: s) = dV l c + sumD l s := by simp [sumD]
    rw [e, e2, List.length_append, List.length_cons]
    have := outV_len l c
    omega
theorem out_append (l : List (UInt8 × ByteArray)) (a b : List UInt8) : outS l (a ++ b) = outS l a ++ outS l b := by simp [outS]
theorem sumD_append (l : List (UInt8 × ByteArray)) (a b : List UInt8) : sumD l (a ++ b) = sumD l a + sumD l b := by simp [sumD]
theorem sumK_none (l : List (UInt8 × ByteArray)) (ks : List UInt8) : sumK l ks [] = 0 := by
  induction ks with
  | nil => rfl
  | cons k ks ih =>
    have e : sumK l (k :: ks) [] = 0 * dV l k + sumK l ks [] := by simp [sumK]
    rw [e, ih]; simp
theorem sumK_cons (l : List (UInt8 × ByteArray)) (ks : List UInt8) (c : UInt8) (s : List UInt8) (hn : ks.Nodup) : sumK l ks (c :: s) = sumK l ks s + (if c ∈ ks then dV l c else 0) := by
  induction ks with
  | nil => simp [sumK]
  | cons k ks ih =>
    have e : ∀ t, sumK l (k :: ks) t = (t.count k : Int) * dV l k + sumK l ks t := fun t => by simp [sumK]
    rw [e, e, ih (List.nodup_cons.1 hn).2]
    have hk := (List.nodup_cons.1 hn).1
    by_cases h : c = k
    · subst h
      rw [List.count_cons_self, if_neg hk, if_pos (List.mem_cons_self ..)]
      have : ((s.count c + 1 : Nat) : Int) * dV l c = (s.count c : Int) * dV l c + dV l c := by rw [Int.natCast_add, Int.add_mul]; simp
      rw [this]; omega
    · rw [List.count_cons_of_ne (fun e => h e)]
      have : (c ∈ k :: ks) = (c ∈ ks) := by simp [h]
      simp only [this]; omega
theorem sum_keys (l : List (UInt8 × ByteArray)) (ks s : List UInt8) (hn : ks.Nodup) (h : ∀ c, c ∉ ks → dV l c = 0) : sumK l ks s = sumD l s := by
  induction s with
  | nil => exact sumK_none l ks
  | cons c s ih =>
    rw [sumK_cons l ks c s hn, ih]
    have e2 : sumD l (c :: s) = dV l c + sumD l s := by simp [sumD]
    rw [e2]
    split
    · omega
    · rw [h c ‹_›]; omega
theorem repl_mem (l : List (UInt8 × ByteArray)) (c : UInt8) : (repl l c.toNat).isSome = true ↔ c ∈ l.map (·.1) := by
  induction l with
  | nil => simp [repl]
  | cons p l ih =>
    simp only [repl, List.map_cons, List.mem_cons]
    by_cases h : c = p.1
    · subst h; simp
    · rw [if_neg (fun e => h (UInt8.toNat_inj.1 e)), ih]; simp [h]
theorem any_keys (l : List (UInt8 × ByteArray)) (s : List UInt8) : ((l.map (·.1)).reverse.any fun k => decide (s.count k ≠ 0)) = anyV l s := by
  rw [Bool.eq_iff_iff]
  unfold anyV
  simp only [List.any_eq_true, List.mem_reverse, decide_eq_true_eq]
  constructor
  · rintro ⟨k, h1, h2⟩
    exact ⟨k, List.count_pos_iff.1 (by omega), (repl_mem l k).2 h1⟩
  · rintro ⟨c, h1, h2⟩
    exact ⟨c, (repl_mem l c).1 h2, by have := List.count_pos_iff.2 h1; omega⟩
theorem out_id (l : List (UInt8 × ByteArray)) (s : List UInt8) (h : anyV l s = false) : outS l s = s := by
  induction s with
  | nil => rfl
  | cons c s ih =>
    have e : anyV l (c :: s) = ((repl l c.toNat).isSome || anyV l s) := rfl
    rw [e, Bool.or_eq_false_iff] at h
    have e2 : outS l (c :: s) = outV l c ++ outS l s := by simp [outS]
    rw [e2, ih h.2]
    unfold outV
    cases hr : repl l c.toNat with
    | none => rfl
    | some y => rw [hr] at h; cases h.1
theorem keysT_eq (l : List (UInt8 × ByteArray)) : keysT l = (l.map (·.1)).reverse.map fun k => (⟨#[k]⟩ : ByteArray) := by
  simp [keysT, List.map_reverse, Function.comp_def]
/-- Each news' bytes are few. -/
theorem dV_bd (l : List (UInt8 × ByteArray)) (h : ∀ p ∈ l, p.2.size ≤ 1000) (c : UInt8) : -1 ≤ dV l c ∧ dV l c ≤ 1000 := by
  unfold dV
  cases hr : repl l c.toNat with
  | none => simp
  | some y =>
    have : y.size ≤ 1000 := by
      induction l with
      | nil => simp [repl] at hr
      | cons p l ih =>
        simp only [repl] at hr
        split at hr
        · cases hr; exact h p (List.mem_cons_self ..)
        · exact ih (fun q hq => h q (List.mem_cons_of_mem _ hq)) hr
    simp only
    omega
theorem sumD_bd (l : List (UInt8 × ByteArray)) (h : ∀ p ∈ l, p.2.size ≤ 1000) (s : List UInt8) : -(s.length : Int) ≤ sumD l s ∧ sumD l s ≤ 1000 * s.length := by
  induction s with
  | nil => simp [sumD]
  | cons c s ih =>
    have e2 : sumD l (c :: s) = dV l c + sumD l s := by simp [sumD]
    have := dV_bd l h c
    rw [e2, List.length_cons]
    omega
end Go.Proofs.YtdcgcccaaooclaaGreatDoor.Rep
end
section
/- (*strings.byteStringReplacer).Replace, walked. -/
set_option linter.unusedVariables false
set_option linter.unusedSimpArgs false
set_option maxRecDepth 20000
namespace Go.Proofs.YtdcgcccaaooclaaGreatDoor.Rep
open Go.RowKit Go.Lib Go.Proofs.YtdcgcccaaooclaaGreatDoorW.PrintWords Go.Proofs.YtdcgcccaaooclaaGreatDoorW.PrintLast Go.Proofs.YtdcgcccaaooclaaGreatDoorW.PrintMore
attribute [local go_sem] one0
theorem cellKeep {w w' : World} (hb : Below w.heap.size w w') {a : Addr} {v : Value} (hv : w.cell? a = some v) : w'.cell? a = some v := (hb.cell (World.block_lt_of_cell? w _ hv)).trans hv
theorem term_bd (c d : Int) (h0 : 0 ≤ c) (h1 : c ≤ 1000000000) (h2 : -1 ≤ d) (h3 : d ≤ 1000) : -1000000000 ≤ c * d ∧ c * d ≤ 1000000000000 := by
  have a := Int.mul_le_mul_of_nonneg_left h3 h0
  have b := Int.mul_le_mul_of_nonneg_left h2 h0
  omega
theorem sumK_bd (l : List (UInt8 × ByteArray)) (h : ∀ p ∈ l, p.2.size ≤ 1000) (s : List UInt8) (hs : s.length ≤ 1000000000) (ks : List UInt8) : -(1000000000 * (ks.length : Int)) ≤ sumK l ks s ∧ sumK l ks s ≤ 1000000000000 * (ks.length : Int) := by
  induction ks with
  | nil => simp [sumK]
  | cons k ks ih =>
    have e : sumK l (k :: ks) s = (s.count k : Int) * dV l k + sumK l ks s := by simp [sumK]
    have hd := dV_bd l h k
    have hc : s.count k ≤ s.length := List.count_le_length
    have := term_bd (s.count k : Int) (dV l k) (by omega) (by omega) hd.1 hd.2
    rw [e, List.length_cons]
    omega
theorem sumK_take (l : List (UInt8 × ByteArray)) (s ks : List UInt8) (i : Nat) (hi : i < ks.length) : sumK l (ks.take (i + 1)) s = sumK l (ks.take i) s + (s.count ks[i] : Int) * dV l ks[i] := by
  have e : sumK l (ks.take i ++ [ks[i]]) s = sumK l (ks.take i) s + (s.count ks[i] : Int) * dV l ks[i] := by simp only [sumK, List.map_append, List.sum_append, List.map_cons, List.map_nil, List.sum_cons, List.sum_nil]; omega
  rw [List.take_succ_eq_append_getElem hi]; exact e
theorem any_take {α : Type} (p : α → Bool) (ks : List α) (i : Nat) (hi : i < ks.length) : (ks.take (i + 1)).any p = ((ks.take i).any p || p ks[i]) := by
  have e : (ks.take i ++ [ks[i]]).any p = ((ks.take i).any p || p ks[i]) := by rw [List.any_append]; simp only [List.any_cons, List.any_nil, Bool.or_false]
  rw [List.take_succ_eq_append_getElem hi]; exact e
theorem sumD_take (l : List (UInt8 × ByteArray)) (s : List UInt8) (i : Nat) (hi : i < s.length) (x : UInt8) (hx : s[i] = x) : sumD l (s.take (i + 1)) = sumD l (s.take i) + dV l x := by
  have e : sumD l (s.take i ++ [s[i]]) = sumD l (s.take i) + dV l s[i] := by rw [sumD_append]; simp only [sumD, List.map_cons, List.map_nil, List.sum_cons, List.sum_nil]; omega
  rw [List.take_succ_eq_append_getElem hi, ← hx]; exact e
theorem anyV_take (l : List (UInt8 × ByteArray)) (s : List UInt8) (i : Nat) (hi : i < s.length) (x : UInt8) (hx : s[i] = x) : anyV l (s.take (i + 1)) = (anyV l (s.take i) || (repl l x.toNat).isSome) := by
  unfold anyV; rw [any_take _ s i hi, hx]
theorem byte_list (s : ByteArray) (L : List UInt8) (hL : L = s.data.toList) (i : Nat) (hi : i < L.length) (h : i < s.size) : L[i] = s[i] := by subst hL; rfl
theorem addk (g k : Nat) : (⟨g, 0, none⟩ : Addr).add k = ⟨g, k, none⟩ := by unfold Addr.add; split <;> simp_all
theorem repl_pos (l : List (UInt8 × ByteArray)) (h : ∀ p ∈ l, 0 < p.2.size) (x : UInt8) (y : ByteArray) (hr : repl l x.toNat = some y) : 0 < y.size := by
  induction l with
  | nil => simp [repl] at hr
  | cons p l ih =>
    simp only [repl] at hr
    split at hr
    · cases hr; exact h p (List.mem_cons_self ..)
    · exact ih (fun q hq => h q (List.mem_cons_of_mem _ hq)) hr
/-- A buffer of N bytes, its head filled. -/
def u8v (c : UInt8) : Value := .int .u8 (c.toNat : Int)
def bufL (N : Nat) (o : List UInt8) : List Value := o.map u8v ++ List.replicate (N - o.length) (.int .u8 0)
theorem bufL_len (N : Nat) (o : List UInt8) (h : o.length ≤ N) : (bufL N o).length = N := by simp [bufL]; omega
theorem bufL_splice (N : Nat) (o y : List UInt8) (h : o.length + y.length ≤ N) : splice (bufL N o) o.length (y.map u8v) = bufL N (o ++ y) := by
  unfold splice bufL
  rw [List.take_left' (by simp), List.length_map, ← List.drop_drop, List.drop_left' (by simp), List.drop_replicate, List.map_append, List.append_assoc, List.length_append, show N - o.length - y.length = N - (o.length + y.length) by omega]
theorem bufL_set (N : Nat) (o : List UInt8) (c : UInt8) (h : o.length < N) : (bufL N o).toArray.setIfInBounds o.length (u8v c) = (bufL N (o ++ [c])).toArray := by
  rw [List.setIfInBounds_toArray]
  congr 1
  unfold bufL
  obtain ⟨m, hm⟩ : ∃ m, N - o.length = m + 1 := ⟨N - o.length - 1, by omega⟩
  rw [hm, List.replicate_succ, List.set_append_right _ _ (by simp), List.length_map, Nat.sub_self, List.set_cons_zero, List.map_append, List.length_append, List.append_assoc, show N - (o.length + [c].length) = m by simp only [List.length_singleton]; omega]
  rfl
theorem bufL_made (N : Nat) : madeCells #[.int .u8 0] N = (bufL N []).toArray := by
  apply Array.ext_getElem?
  intro i
  by_cases h : i < N
  · simp [madeCells, bufL, h, Nat.mod_one]
  · simp [madeCells, bufL, h]
theorem bufL_bytes {W : World} {g : Nat} (o : List UInt8) (h : W.heap[g]? = some (.cells (bufL o.length o).toArray 5 (0, 0))) : Lib.Bytes W g 0 ⟨o.toArray⟩ := by
  intro i hi
  have hi2 : i < o.length := by
    have h : i < o.toArray.size := hi
    simpa using h
  rw [Nat.zero_add, blk_cell h i]
  have : (bufL o.length o).toArray[i]? = some (u8v o[i]) := by
    unfold bufL
    rw [List.getElem?_toArray, List.getElem?_append_left (by simpa using hi2), List.getElem?_map, List.getElem?_eq_getElem hi2]; rfl
  rw [this]
  rfl
/-- The built table, as its Replace reads it. -/
structure Tb (w : World) (B : Nat) (f : Nat → Value) (l : List (UInt8 × ByteArray)) : Prop where
  at_ : ∀ c, c < 256 → w.cell? ⟨B, c, none⟩ = some (f c)
  top : ∃ T d, w.cell? ⟨B, 256, none⟩ = some (.slice T (keysT l).length d) ∧ Kd.C Kd.string w T (keysT l).length (keysT l)
  slot : ∀ c, c < 256 → Slot w (f c) (repl l c)
theorem Tb.below {w W : World} {B : Nat} {f : Nat → Value} {l : List (UInt8 × ByteArray)} (h : Tb w B f l) (hb : Below w.heap.size w W) : Tb W B f l := by
  obtain ⟨T, d, h1, h2⟩ := h.top
  exact ⟨fun c hc => cellKeep hb (h.at_ c hc), ⟨T, d, cellKeep hb h1, Kd.C_below h2 hb⟩, fun c hc => (h.slot c hc).keep (T5.below hb)⟩
set_option maxHeartbeats 4000000 in
theorem replace_str (B : Nat) (f : Nat → Value) (prs : List (UInt8 × ByteArray)) (s : ByteArray) (w : World) (hT : Tb w B f prs) (hs : s.size ≤ 1000000000) (hl : prs.length ≤ 50) (hy : ∀ p ∈ prs, p.2.size ≤ 1000) (hnd : (prs.map (·.1)).Nodup) (hy0 : ∀ p ∈ prs, 0 < p.2.size) :
    Calls Tryz.prog 153 #[.pointer (some ⟨B, 0, none⟩), .string s] w fun e w' => e = .returned (.string ⟨(outS prs s.data.toList).toArray⟩) ∧ Below w.heap.size w w' := by
  obtain ⟨T, d, h256, hC⟩ := hT.top
  obtain ⟨ks, hks⟩ : ∃ ks, ks = (prs.map (·.1)).reverse := ⟨_, rfl⟩
  have hkl : ks.length = prs.length := by rw [hks]; simp
  have hkt : keysT prs = ks.map fun k => (⟨#[k]⟩ : ByteArray) := by rw [hks]; exact keysT_eq prs
  obtain ⟨m, hm⟩ : ∃ m, m = (keysT prs).length := ⟨_, rfl⟩
  rw [← hm] at h256 hC
  have hmk : m = ks.length := by rw [hm, hkt, List.length_map]
  obtain ⟨L, hL⟩ : ∃ L, L = s.data.toList := ⟨_, rfl⟩
  have hll : L.length = s.size := by rw [hL, Array.length_toList]; rfl
  have HT := Lib.hid hT
  have HC := Lib.hid hC
  have HK := Lib.hid (And.intro hmk (And.intro hkl (And.intro hkt hks)))
  have HP := Lib.hid (And.intro hs (And.intro hl (And.intro hy hnd)))
  have HY0 := Lib.hid hy0
  have HLL := Lib.hid (And.intro hL hll)
  have hm50 : m ≤ 50 := by omega
  have hs9 : (s.size : Int) ≤ 1000000000 := by omega
  have hm9 : (m : Int) ≤ 50 := by omega
  rw [← hL]
  clear hT hC hm hks hkl hkt hmk hL hll hs hl hy hnd hy0
  go_enter Tryz.func153, Tryz.ntmps153
  go_upto_if 26 with (fail)
  obtain ⟨q26, hq26⟩ : ∃ q, q = decide ((m : Int) * 8 ≤ (s.size : Int)) := ⟨_, rfl⟩
  rw [← hq26]
  clear hq26
  go_cut [5, 6] (fun v5 v6 wc => v5 = .int .i64 ((outS prs L).length : Int) ∧ v6 = .bool (anyV prs L) ∧ Hid (Below w.heap.size w wc))
  case first =>
    cases q26
    case true =>
      go_wp2_with fail
      go_loopg [5, 6, 8, 9, 32] m (fun kx s5 s6 s8 s9 s32 wr => ∃ i : Nat, s32 = .int .i64 (i : Int) ∧ i ≤ m ∧ m - i ≤ kx ∧ (∃ z : Int, s5 = .int .i64 z ∧ Hid (z = (s.size : Int) + sumK prs (ks.take i) L)) ∧ (∃ a : Bool, s6 = .bool a ∧ Hid (a = (ks.take i).any fun k => decide (L.count k ≠ 0))) ∧ Hid (Below w.heap.size w wr))
      case atStart => exact ⟨0, rfl, by omega, by omega, ⟨_, rfl, Lib.hid (by simp [sumK])⟩, ⟨_, rfl, Lib.hid (by simp)⟩, Lib.hid (Below.refl _ _)⟩
      case round =>
        obtain ⟨i, rfl, hi, hkx, ⟨z, rfl, HZ⟩, ⟨a, rfl, HA⟩, HB⟩ := hrel
        by_cases hlt : i < m
        · have hik : i < ks.length := by have := HK.out.1; omega
          obtain ⟨x, hx⟩ : ∃ x, x = ks[i] := ⟨_, rfl⟩
          obtain ⟨ad, ea, hxc⟩ := Kd.at_string (Kd.C_below HC.out HB.out) (i : Int) (by omega) (by omega)
          rw [rd_of (x := (⟨#[x]⟩ : ByteArray)) (by rw [HK.out.2.2.1, Int.toNat_natCast, List.getElem?_map, List.getElem?_eq_getElem hik, hx]; rfl), Int.toNat_natCast] at hxc
          subst ea
          have hx8 : x.toNat < 256 := x.toNat_lt
          have hx9 : (x.toNat : Int) < 256 := by omega
          have hmem : x ∈ prs.map (·.1) := by
            have : x ∈ ks := by rw [hx]; exact List.getElem_mem hik
            rw [HK.out.2.2.2] at this
            exact List.mem_reverse.1 this
          obtain ⟨y, hy⟩ := Option.isSome_iff_exists.1 ((repl_mem prs x).2 hmem)
          have hsl := HT.out.slot x.toNat hx8
          have hcf := cellKeep HB.out (HT.out.at_ x.toNat hx8)
          rw [hy] at hsl
          obtain ⟨g, cap, cs, fz, hfx, _, _⟩ := hsl
          rw [hfx] at hcf
          obtain ⟨D, hD⟩ : ∃ D, D = L.count x := ⟨_, rfl⟩
          have hdy : dV prs x = (y.size : Int) - 1 := by unfold dV; rw [hy]
          have hd := dV_bd prs HP.out.2.2.1 x
          have hD9 : D ≤ 1000000000 := by have := HLL.out.2; have h7 : L.count x ≤ L.length := List.count_le_length; omega
          have hb := sumK_bd prs HP.out.2.2.1 L (by have := HLL.out.2; omega) (ks.take i)
          have hbl : (ks.take i).length ≤ i := List.length_take_le _ _
          have ht := term_bd (D : Int) ((y.size : Int) - 1) (by omega) (by omega) (by omega) (by omega)
          have hz1 : -100000000000 ≤ z := by rw [HZ.out]; omega
          have hz2 : z ≤ 100000000000000 := by rw [HZ.out]; omega
          have hy9 : (y.size : Int) ≤ 1001 := by omega
          have hcd : Hid (Calls Tryz.prog 155 #[.string s, .string ⟨#[x]⟩] wr fun e w' => e = .returned (.int .i64 (D : Int)) ∧ w' = wr) := Lib.hid (by have h := Tryz.strings_Count_one s x wr; rw [← HLL.out.1, show countByte L x = D from hD.symm] at h; exact h)
          have hp5 := Go.IntWalk.wrap64_in ((i : Int) + 1) (by omega)
          have P5 : Hid (wrap64 ((i : Int) + 1) = (i : Int) + 1) := Lib.hid hp5
          clear hp5
          have E1 : Hid (IntKind.i64.wrap ((D : Int) * ((y.size : Int) - 1)) = (D : Int) * ((y.size : Int) - 1)) := Lib.hid (Go.IntWalk.i64_in _ (by omega))
          have E2 : Hid (IntKind.i64.wrap (z + (D : Int) * ((y.size : Int) - 1)) = z + (D : Int) * ((y.size : Int) - 1)) := Lib.hid (Go.IntWalk.i64_in _ (by omega))
          have HI := Lib.hid (And.intro hlt (And.intro hkx (And.intro hx (And.intro hik (And.intro hD hdy)))))
          have q1 := eq_true (show (0 : Int) ≤ (i : Int) by omega)
          have q2 := eq_true (show (i : Int) < (m : Int) by omega)
          have c1 : decide ((i : Int) < (m : Int)) = true := decide_eq_true (by omega)
          clear hi hkx hlt hx hmem hy hfx hD hdy hd hb hbl
          by_cases hd0 : D = 0
          · have c2 : ((D : Int) != 0) = false := by rw [hd0]; rfl
            have HD0 := Lib.hid hd0
            clear hd0
            go_wp2_with (first | (go_at_call 155; refine hcd.out.mono ?_; rintro e w' ⟨rfl, rfl⟩))
            go_roundg (m - (i + 1))
            case measure => have := HI.out.2.1; have := HI.out.1; omega
            case rel =>
              obtain ⟨h1, h2, h3, h4, h5, h6⟩ := HI.out
              refine ⟨i + 1, by rw [P5.out]; rfl, by omega, Nat.le_refl _, ⟨z, rfl, Lib.hid ?_⟩, ⟨a, rfl, Lib.hid ?_⟩, HB⟩
              · rw [sumK_take prs L ks i h4, ← h3, ← h5, HD0.out, HZ.out]; simp
              · rw [any_take _ ks i h4, ← h3, ← h5, HD0.out, HA.out]; simp
          · have c2 : ((D : Int) != 0) = true := bne_iff_ne.2 (by omega)
            have HD0 := Lib.hid hd0
            clear hd0
            have e1 := E1.out
            have e2 := E2.out
            go_wp2_with (first | (go_at_call 155; refine hcd.out.mono ?_; rintro e w' ⟨rfl, rfl⟩))
            go_quiet (fail)
            go_wp2_with fail
            clear e1 e2
            go_roundg (m - (i + 1))
            case measure => have := HI.out.2.1; have := HI.out.1; omega
            case rel =>
              obtain ⟨h1, h2, h3, h4, h5, h6⟩ := HI.out
              refine ⟨i + 1, by rw [P5.out]; rfl, by omega, Nat.le_refl _, ⟨_, rfl, Lib.hid ?_⟩, ⟨true, rfl, Lib.hid ?_⟩, Lib.hid (pw_below_drewN HB.out _)⟩
              · rw [sumK_take prs L ks i h4, ← h3, ← h5, HZ.out, h6]; omega
              · rw [any_take _ ks i h4, ← h3, ← h5, decide_eq_true HD0.out, Bool.or_true]
        · obtain rfl : i = m := by omega
          have c1 : decide ((i : Int) < (i : Int)) = false := decide_eq_false (by omega)
          have htk : ks.take i = ks := List.take_of_length_le (by have := HK.out.1; omega)
          have hz : z = ((outS prs L).length : Int) := by
            rw [HZ.out, htk, out_len, sum_keys prs ks L (by rw [HK.out.2.2.2]; exact (List.reverse_perm _).nodup_iff.2 HP.out.2.2.2) (fun c hc => by
              have : repl prs c.toNat = none := by
                cases hr : repl prs c.toNat with
                | none => rfl
                | some y => exact absurd (by rw [HK.out.2.2.2]; exact List.mem_reverse.2 ((repl_mem prs c).1 (by rw [hr]; rfl))) hc
              unfold dV; rw [this]), HLL.out.2]
          have ha : a = anyV prs L := by rw [HA.out, htk, HK.out.2.2.2]; exact any_keys prs L
          subst hz ha
          clear hi hkx hlt htk HZ HA
          go_wp2_with fail
          go_meet
          case rel => exact ⟨rfl, rfl, HB⟩
    case false =>
      go_wp2_with fail
      go_loopg [5, 6, 10, 11] s.size (fun kx s5 s6 s10 s11 wr => ∃ i : Nat, s10 = .int .i64 (i : Int) ∧ i ≤ s.size ∧ s.size - i ≤ kx ∧ (∃ z : Int, s5 = .int .i64 z ∧ Hid (z = (s.size : Int) + sumD prs (L.take i))) ∧ (∃ a : Bool, s6 = .bool a ∧ Hid (a = anyV prs (L.take i))) ∧ Hid (Below w.heap.size w wr))
      case atStart => exact ⟨0, rfl, by omega, by omega, ⟨_, rfl, Lib.hid (by simp [sumD])⟩, ⟨_, rfl, Lib.hid (by simp [anyV])⟩, Lib.hid (Below.refl _ _)⟩
      case round =>
        obtain ⟨i, rfl, hi, hkx, ⟨z, rfl, HZ⟩, ⟨a, rfl, HA⟩, HB⟩ := hrel
        by_cases hlt : i < s.size
        · have hil : i < L.length := by have := HLL.out.2; omega
          obtain ⟨x, hx⟩ : ∃ x, x = s[i] := ⟨_, rfl⟩
          have hxl : L[i] = x := (byte_list s L HLL.out.1 i hil hlt).trans hx.symm
          have hsi : ∀ h : i < s.size, s[i] = x := fun _ => hx.symm
          have hx8 : x.toNat < 256 := x.toNat_lt
          have hx9 : (x.toNat : Int) < 256 := by omega
          have hsl := HT.out.slot x.toNat hx8
          have hcf := cellKeep HB.out (HT.out.at_ x.toNat hx8)
          have hb := sumD_bd prs HP.out.2.2.1 (L.take i)
          have hbl : (L.take i).length ≤ i := List.length_take_le _ _
          have hd := dV_bd prs HP.out.2.2.1 x
          have hz1 : -100000000000 ≤ z := by rw [HZ.out]; omega
          have hz2 : z ≤ 100000000000000 := by rw [HZ.out]; omega
          have hst := sumD_take prs L i hil x hxl
          have hat := anyV_take prs L i hil x hxl
          have HI := Lib.hid (And.intro hlt (And.intro hkx (And.intro hst hat)))
          have q1 := eq_true (show (0 : Int) ≤ (i : Int) by omega)
          have q2 := eq_true (show (i : Int) < (s.size : Int) by omega)
          have c1 : decide ((i : Int) < (s.size : Int)) = true := decide_eq_true (by omega)
          have q30 : ∀ (w : World) (a : Option Addr) (n c n' c' : Nat), (binOp .neq 30 (.slice a n c) (.slice none n' c')).run Tryz.prog w = .ok (.bool (!a.isNone)) w := fun w a n c n' c' => run_neq_slice_nil_any w _ _ a n c n' c' Tryz.underlying30
          have hp5 := Go.IntWalk.wrap64_in ((i : Int) + 1) (by omega)
          have P5 : Hid (wrap64 ((i : Int) + 1) = (i : Int) + 1) := Lib.hid hp5
          clear hp5
          cases hr : repl prs x.toNat with
          | none =>
            rw [hr] at hsl
            have hfx : f x.toNat = .slice none 0 0 := hsl
            rw [hfx] at hcf
            have HR := Lib.hid (show dV prs x = 0 ∧ (repl prs x.toNat).isSome = false by unfold dV; rw [hr]; exact ⟨rfl, rfl⟩)
            clear hi hkx hil hx hxl hst hat hb hbl hd hr hsl hfx hlt
            go_wp2_with fail
            go_roundg (s.size - (i + 1))
            case measure => have := HI.out.2.1; have := HI.out.1; omega
            case rel =>
              obtain ⟨h1, h2, h3, h4⟩ := HI.out
              exact ⟨i + 1, by rw [P5.out]; rfl, by omega, Nat.le_refl _, ⟨z, rfl, Lib.hid (by rw [h3, HR.out.1, HZ.out]; omega)⟩, ⟨a, rfl, Lib.hid (by rw [h4, HR.out.2, HA.out, Bool.or_false])⟩, HB⟩
          | some y =>
            rw [hr] at hsl
            obtain ⟨g, cap, cs, fz, hfx, _, _⟩ := hsl
            rw [hfx] at hcf
            have hdy : dV prs x = (y.size : Int) - 1 := by unfold dV; rw [hr]
            have hy9 : (y.size : Int) ≤ 1001 := by omega
            have HR := Lib.hid (And.intro hdy (show (repl prs x.toNat).isSome = true by rw [hr]; rfl))
            clear hi hkx hil hx hxl hst hat hb hbl hd hr hfx hdy hlt
            go_wp2_with fail
            go_roundg (s.size - (i + 1))
            case measure => have := HI.out.2.1; have := HI.out.1; omega
            case rel =>
              obtain ⟨h1, h2, h3, h4⟩ := HI.out
              exact ⟨i + 1, by rw [P5.out]; rfl, by omega, Nat.le_refl _, ⟨_, rfl, Lib.hid (by rw [h3, HR.out.1, HZ.out]; omega)⟩, ⟨true, rfl, Lib.hid (by rw [h4, HR.out.2, Bool.or_true])⟩, HB⟩
        · obtain rfl : i = s.size := by omega
          have c1 : decide ((s.size : Int) < (s.size : Int)) = false := decide_eq_false (by omega)
          have htk : L.take s.size = L := List.take_of_length_le (by have := HLL.out.2; omega)
          have hz : z = ((outS prs L).length : Int) := by rw [HZ.out, htk, out_len, HLL.out.2]
          have ha : a = anyV prs L := by rw [HA.out, htk]
          subst hz ha
          clear hi hkx hlt htk HZ HA
          go_wp2_with fail
          go_meet
          case rel => exact ⟨rfl, rfl, HB⟩
  case rest =>
    obtain ⟨rfl, rfl, HB⟩ := hcut
    cases han : anyV prs L
    · have HF := Lib.hid (out_id prs L han)
      clear han
      go_wp2_with fail
      go_ret
      exact ⟨congrArg (fun z => Ending.returned (.string z)) (by rw [HF.out, HLL.out.1]), HB.out⟩
    · clear han
      obtain ⟨N, hN⟩ : ∃ N, N = (outS prs L).length := ⟨_, rfl⟩
      have hNb : N ≤ 2000000000000 := by
        have h1 := out_len prs L
        have h2 := sumD_bd prs HP.out.2.2.1 L
        have h3 := HLL.out.2
        omega
      rw [← hN]
      have HN := Lib.hid (And.intro hN hNb)
      have HMK : Hid (∀ W : World, (Instr.makeSlice 30 (.int .i64 (N : Int)) (.int .i64 (N : Int))).run Tryz.prog W = .ok (.slice (some ⟨W.heap.size, 0, none⟩) N N) (W.alloc (.cells (bufL N []).toArray 5))) := Lib.hid (fun W => by
        obtain ⟨i0, hi, hzz⟩ := Option.map_eq_some_iff.1 (show (Tryz.prog.info? 5).map (fun i => (i.zero, i.size, i.bytes)) = some (some (.int .u8 0), 1, 1) by kernel_rfl)
        simp only [Prod.mk.injEq] at hzz
        have hr := run_make (P := Tryz.prog) W 30 5 i0 (.int .u8 0) Tryz.underlying30 hi hzz.1 .i64 .i64 (N : Int) (N : Int) (by omega) (by omega) (by rw [hzz.2.2]; omega) (by omega)
        rw [hzz.2.1, Int.toNat_natCast, Nat.mul_one] at hr
        rw [← bufL_made]
        exact hr)
      have hmk := HMK.out
      clear hN hNb h256
      go_wp2_with fail
      clear hmk HMK
      have HW : Hid (Below w.heap.size w (wc.alloc (.cells (bufL N []).toArray 5)) ∧ (wc.alloc (.cells (bufL N []).toArray 5)).heap[wc.heap.size]? = some (.cells (bufL N []).toArray 5 (0, 0)) ∧ w.heap.size ≤ wc.heap.size) := Lib.hid ⟨below_alloc HB.out _, blk_new wc _, HB.out.size⟩
      generalize hg0 : wc.heap.size = g at HW ⊢
      generalize hw0 : wc.alloc (.cells (bufL N []).toArray 5) = w1 at HW ⊢
      clear hg0 hw0 HB
      go_loopg [13, 14, 15] s.size (fun kx s13 s14 s15 wr => ∃ i j : Nat, s14 = .int .i64 (i : Int) ∧ i ≤ s.size ∧ s.size - i ≤ kx ∧ s13 = .int .i64 (j : Int) ∧ Hid (j = (outS prs (L.take i)).length ∧ Below w.heap.size w wr ∧ wr.heap[g]? = some (.cells (bufL N (outS prs (L.take i))).toArray 5 (0, 0))))
      case atStart => exact ⟨0, 0, rfl, by omega, by omega, rfl, Lib.hid ⟨rfl, HW.out.1, HW.out.2.1⟩⟩
      case round =>
        have HG := Lib.hid HW.out.2.2
        clear HW
        obtain ⟨i, j, rfl, hi, hkx, rfl, HW⟩ := hrel
        by_cases hlt : i < s.size
        · have hil : i < L.length := by have := HLL.out.2; omega
          obtain ⟨x, hx⟩ : ∃ x, x = s[i] := ⟨_, rfl⟩
          have hxl : L[i] = x := (byte_list s L HLL.out.1 i hil hlt).trans hx.symm
          have hsi : ∀ h : i < s.size, s[i] = x := fun _ => hx.symm
          have hx8 : x.toNat < 256 := x.toNat_lt
          have hx9 : (x.toNat : Int) < 256 := by omega
          have hsl := HT.out.slot x.toNat hx8
          have hcf := cellKeep HW.out.2.1 (HT.out.at_ x.toNat hx8)
          have hto : outS prs (L.take (i + 1)) = outS prs (L.take i) ++ outV prs x := by
            rw [List.take_succ_eq_append_getElem hil, out_append, hxl]
            congr 1
            unfold outS
            rw [List.flatMap_cons, List.flatMap_nil, List.append_nil]
          have hlN : (outS prs (L.take i)).length + (outV prs x).length ≤ N := by
            have e : outS prs L = outS prs (L.take (i + 1)) ++ outS prs (L.drop (i + 1)) := by rw [← out_append, List.take_append_drop]
            rw [HN.out.1, e, hto, List.length_append, List.length_append]
            omega
          have HI := Lib.hid (And.intro hlt (And.intro hkx (And.intro hto hlN)))
          have q1 := eq_true (show (0 : Int) ≤ (i : Int) by omega)
          have q2 := eq_true (show (i : Int) < (s.size : Int) by omega)
          have c1 : decide ((i : Int) < (s.size : Int)) = true := decide_eq_true (by omega)
          have hjv : j + (outV prs x).length ≤ N := by rw [HW.out.1]; exact hlN
          have hNb := HN.out.2
          have q30 : ∀ (w : World) (a : Option Addr) (n c n' c' : Nat), (binOp .neq 30 (.slice a n c) (.slice none n' c')).run Tryz.prog w = .ok (.bool (!a.isNone)) w := fun w a n c n' c' => run_neq_slice_nil_any w _ _ a n c n' c' Tryz.underlying30
          have hp5 := Go.IntWalk.wrap64_in ((i : Int) + 1) (by omega)
          have P5 : Hid (wrap64 ((i : Int) + 1) = (i : Int) + 1) := Lib.hid hp5
          clear hp5
          cases hr : repl prs x.toNat with
          | none =>
            rw [hr] at hsl
            have hfx : f x.toNat = .slice none 0 0 := hsl
            rw [hfx] at hcf
            have hov : outV prs x = [x] := by unfold outV; rw [hr]
            rw [hov] at hjv hto
            have hj1 : j < N := by simp at hjv; omega
            have HR := Lib.hid (And.intro hov (And.intro hj1 hto))
            have q3 := eq_true (show (0 : Int) ≤ (j : Int) by omega)
            have q4 := eq_true (show (j : Int) < (N : Int) by omega)
            obtain ⟨cv, hcj⟩ : ∃ v, wr.cell? ⟨g, j, none⟩ = some v := ⟨(bufL N (outS prs (L.take i)))[j]'(by rw [bufL_len _ _ (by rw [← HW.out.1]; omega)]; exact hj1), by rw [blk_cell HW.out.2.2 j, List.getElem?_toArray, List.getElem?_eq_getElem]⟩
            have hfj : wr.frozen? ⟨g, j, none⟩ = false := blk_frozen HW.out.2.2 j
            have hj5 := Go.IntWalk.wrap64_in ((j : Int) + 1) (by omega)
            have J5 : Hid (wrap64 ((j : Int) + 1) = (j : Int) + 1) := Lib.hid hj5
            clear hi hkx hil hx hxl hto hlN hr hsl hfx hlt hov hjv hj1 hNb hj5
            go_wp2_with fail
            go_roundg (s.size - (i + 1))
            case measure => have := HI.out.2.1; have := HI.out.1; omega
            case rel =>
              refine ⟨i + 1, j + 1, by rw [P5.out]; rfl, by have := HI.out.1; omega, Nat.le_refl _, by rw [J5.out]; rfl, Lib.hid ⟨?_, HW.out.2.1.setCell HG.out _, ?_⟩⟩
              · rw [HR.out.2.2, List.length_append, ← HW.out.1]; rfl
              · rw [HR.out.2.2]
                refine blk_put HW.out.2.2 j _ ?_
                have := bufL_set N (outS prs (L.take i)) x (by rw [← HW.out.1]; exact HR.out.2.1)
                rw [← HW.out.1] at this
                exact this
          | some y =>
            rw [hr] at hsl
            obtain ⟨gy, cap, cs, fz, hfx, hgy, hcs⟩ := hsl
            rw [hfx] at hcf
            have hov : outV prs x = y.data.toList := by unfold outV; rw [hr]
            have hyl : y.data.toList.length = y.size := by rw [Array.length_toList]; rfl
            rw [hov] at hjv hto
            rw [hyl] at hjv
            have hys : 0 < y.size := repl_pos prs HY0.out x y hr
            have hj1 : j < N := by omega
            have HR := Lib.hid (And.intro hyl (And.intro hjv hto))
            have HY := Lib.hid (And.intro hgy hcs)
            have q3 := eq_true (show (0 : Int) ≤ (j : Int) by omega)
            have q4 := eq_true (show (j : Int) ≤ (N : Int) by omega)
            have q5 : (N = j) = False := eq_false (by omega)
            have hj5 := Go.IntWalk.wrap64_in ((j : Int) + (y.size : Int)) (by omega)
            have J5 : Hid (wrap64 ((j : Int) + (y.size : Int)) = (j : Int) + (y.size : Int)) := Lib.hid hj5
            have HJ1 := Lib.hid hj1
            clear hi hkx hil hx hxl hto hlN hr hfx hlt hov hjv hNb hj5 hyl hgy hcs hj1
            go_wp2_with fail
            have HS : Hid ((y.data.toList.map u8v).length = Nat.min y.size (N - j)) := Lib.hid (by rw [List.length_map, HR.out.1]; exact (Nat.min_eq_left (by have := HR.out.2.1; omega)).symm)
            have HS2 : Hid (0 < (y.data.toList.map u8v).length → (some ⟨g, j, none⟩ : Option Addr) = some ⟨g, j, none⟩ ∧ ∃ ad, (some ⟨gy, 0, none⟩ : Option Addr) = some ad ∧ ∀ k v, (y.data.toList.map u8v)[k]? = some v → wr.drew.cell? (ad.add k) = some v) := Lib.hid (fun _ => ⟨rfl, _, rfl, fun k v hk => by
              rw [List.getElem?_map] at hk
              obtain ⟨c, hc, rfl⟩ := Option.map_eq_some_iff.1 hk
              obtain ⟨hk2, hc2⟩ := List.getElem?_eq_some_iff.1 hc
              have hk3 : k < y.size := by rw [← HR.out.1]; exact hk2
              have h3 : wr.heap[gy]? = some (Obj.cells cs 5 fz) := (T5.below HW.out.2.1) gy cs fz HY.out.1
              have h4 := HY.out.2 k hk3
              rw [addk]
              have h5 : wr.drew.heap[gy]? = some (Obj.cells cs 5 fz) := h3
              simp only [World.cell?, h5]
              rw [h4]
              subst hc2
              rfl⟩)
            have HS3 : Hid (j + (y.data.toList.map u8v).length ≤ (bufL N (outS prs (L.take i))).length) := Lib.hid (by rw [List.length_map, HR.out.1, bufL_len _ _ (by rw [← HW.out.1]; have := HJ1.out; omega)]; exact HR.out.2.1)
            go_region_law (refine step_copy_splice rfl (.tmp 105) (.tmp 111) 30 30 rfl 5 Tryz.underlying30 (by kernel_rfl) (some ⟨g, j, none⟩) (some ⟨gy, 0, none⟩) (N - j) (N - j) y.size cap rfl rfl g j (bufL N (outS prs (L.take i))) 5 (blk_drew HW.out.2.2) (y.data.toList.map u8v) HS.out HS2.out HS3.out (fun v hv => by obtain ⟨c, _, rfl⟩ := List.mem_map.1 hv; rfl) w.heap.size w (below_drew HW.out.2.1) HG.out ?_; intro w4 hg4 hb4)
            go_wp2_with fail
            go_roundg (s.size - (i + 1))
            case measure => have := HI.out.2.1; have := HI.out.1; omega
            case rel =>
              refine ⟨i + 1, j + y.size, by rw [P5.out]; rfl, by have := HI.out.1; omega, Nat.le_refl _, by rw [J5.out]; rfl, Lib.hid ⟨?_, hb4, ?_⟩⟩
              · rw [HR.out.2.2, List.length_append, ← HW.out.1, HR.out.1]
              · rw [HR.out.2.2]
                have h := bufL_splice N (outS prs (L.take i)) y.data.toList (by rw [← HW.out.1, HR.out.1]; exact HR.out.2.1)
                rw [← HW.out.1] at h
                rw [← h]
                exact hg4.out
        · obtain rfl : i = s.size := by omega
          have c1 : decide ((s.size : Int) < (s.size : Int)) = false := decide_eq_false (by omega)
          have htk : L.take s.size = L := List.take_of_length_le (by have := HLL.out.2; omega)
          have hb := HW.out.2.2
          rw [htk, HN.out.1] at hb
          have hcw := Lib.run_convert_whole (P := Tryz.prog) wr 30 5 9 Tryz.underlying30 Tryz.underlying5 Tryz.underlying9 g 0 ⟨(outS prs L).toArray⟩ (bufL_bytes _ hb) N
          rw [show (⟨(outS prs L).toArray⟩ : ByteArray).size = N by rw [HN.out.1]; exact List.size_toArray] at hcw
          clear hi hkx hlt htk hb
          go_wp2_with fail
          go_ret
          exact ⟨rfl, HW.out.2.1⟩
end Go.Proofs.YtdcgcccaaooclaaGreatDoor.Rep
end
section
/- (*strings.Replacer).buildOnce and Replace. -/
set_option linter.unusedVariables false
set_option linter.unusedSimpArgs false
set_option maxRecDepth 20000
namespace Go.Proofs.YtdcgcccaaooclaaGreatDoor.Rep
open Go.RowKit Go.Lib Go.Proofs.YtdcgcccaaooclaaGreatDoorW.PrintWords Go.Proofs.YtdcgcccaaooclaaGreatDoorW.PrintLast Go.Proofs.YtdcgcccaaooclaaGreatDoorW.PrintMore
/-- All old blocks but one stay. -/
structure Kb (b : Nat) (w w' : World) : Prop where
  os : w'.os = w.os
  tape : w'.tape = w.tape
  output : w'.output = w.output
  size : w.heap.size ≤ w'.heap.size
  block : ∀ k, k < w.heap.size → k ≠ b → w'.heap[k]? = w.heap[k]?
theorem Kb.refl (b : Nat) (w : World) : Kb b w w := ⟨rfl, rfl, rfl, Nat.le_refl _, fun _ _ _ => rfl⟩
theorem Kb.trans {b : Nat} {w w' w'' : World} (h : Kb b w w') (h2 : Kb b w' w'') : Kb b w w'' :=
  ⟨h2.os.trans h.os, h2.tape.trans h.tape, h2.output.trans h.output, Nat.le_trans h.size h2.size, fun k hk hne => (h2.block k (Nat.lt_of_lt_of_le hk h.size) hne).trans (h.block k hk hne)⟩
theorem Kb.of_below {b : Nat} {w w' : World} (h : Below w.heap.size w w') : Kb b w w' := ⟨h.os, h.tape, h.output, h.size, fun k hk _ => h.block k hk⟩
theorem Kb.drew (b : Nat) (w : World) : Kb b w w.drew := Kb.of_below (below_drew (Below.refl _ _))
theorem Kb.set {b i : Nat} (w : World) (v : Value) : Kb b w (w.setCell ⟨b, i, none⟩ v) := ⟨rfl, rfl, rfl, by simp [World.setCell], fun k _ hne => Below.heap_setCell w ⟨b, i, none⟩ v k hne⟩
theorem Kb.below {b base : Nat} {w w' : World} (h : Kb b w w') (hb : base ≤ b) (hw : base ≤ w.heap.size) : Below base w w' := ⟨h.os, h.tape, h.output, h.size, fun k hk => h.block k (by omega) (by omega)⟩
/-- The built table in a later world: the blocks that the build made stay. -/
theorem SB.later {w W W' : World} {B : Nat} {f : Nat → Value} {l : List (UInt8 × ByteArray)} (h : SB w W B f l) (hk : ∀ k, w.heap.size ≤ k → k < W.heap.size → W'.heap[k]? = W.heap[k]?) (h5 : T5 W W') : Tb W' B f l := by
  have hB := hk B h.bb.base (blk_lt h.bb.blk)
  have hblk : W'.heap[B]? = some (.cells (Rep.row 257 f) 106 (0, 0)) := hB.trans h.bb.blk
  refine ⟨fun c hc => (blk_cell hblk c).trans (row_get _ _ _ (by omega)), ?_, fun c hc => (h.slot c hc).keep h5⟩
  obtain ⟨T, d, e⟩ := Kd.R_slice h.row
  have hr := Kd.R_step (Kd.R_bound h.row) (w1 := W') (fun k hk1 hk2 => hk k hk1.2.1 hk2)
  rw [e] at hr
  exact ⟨T, d, (blk_cell hblk 256).trans (by rw [row_get _ _ _ (by omega), e]), (Kd.R_reads' hr).2.2⟩
/-- A Replacer's block. -/
def RepB (w : World) (b : Nat) (d st : Int) (r o : Value) : Prop := w.heap[b]? = some (.cells #[.int .u32 d, .int .i32 st, .int .u32 0, r, o] 65 (0, 0))
set_option maxHeartbeats 1000000 in
theorem once_str (b : Nat) (prs : List (UInt8 × ByteArray)) (d st : Int) (A : Option Addr) (n c : Nat) (w : World) (hb : RepB w b d st .nilIface (.slice A n c)) (hn : n = (flat prs).length) (hC : Kd.C Kd.string w A n (flat prs)) (hc : n ≤ c) (hl : prs.length ≤ 50) (h2 : 2 ≤ prs.length) (h1 : ∀ p ∈ prs, p.2.size ≠ 1) (h3 : ∀ p ∈ prs, p.2.size ≤ 1000) (hnd : (prs.map (·.1)).Nodup) :
    Calls Tryz.prog 29 #[.pointer (some ⟨b, 0, none⟩)] w fun e w' => e = .returned (.tuple #[]) ∧ ∃ B f, RepB w' b d st (.iface 107 (.pointer (some ⟨B, 0, none⟩))) (.slice none 0 0) ∧ Tb w' B f prs ∧ Kb b w w' ∧ b < w.heap.size ∧ w.heap.size ≤ B := by
  subst hn
  have HD := Lib.hid (build_str b prs w ⟨A, c, (blk_cell hb 4).trans rfl, hC, hc⟩ hl h2 h1 h3 hnd)
  have HB := Lib.hid hb
  clear hC hc hl h2 h1 h3 hnd hb
  go_enter Tryz.func29, Tryz.ntmps29
  go_wp2_with (first | (go_at_call 40; refine HD.out.mono ?_))
  rintro e w1 ⟨B, f, rfl, hS⟩
  have HS := Lib.hid hS
  have hk : RepB w1 b d st .nilIface (.slice A (flat prs).length c) := blk_below HB.out hS.bb.low
  have c3 : w1.cell? ⟨b, 3, none⟩ = some .nilIface := (blk_cell hk 3).trans rfl
  have c4 : w1.cell? ⟨b, 4, none⟩ = some (.slice A (flat prs).length c) := (blk_cell hk 4).trans rfl
  have f3 : w1.frozen? ⟨b, 3, none⟩ = false := blk_frozen hk 3
  have f4 : w1.frozen? ⟨b, 4, none⟩ = false := blk_frozen hk 4
  have HK := Lib.hid hk
  clear hS hk
  go_wp2_with fail
  go_end0
  refine ⟨rfl, B, f, ?_, ?_, ?_, blk_lt HB.out, HS.out.bb.base⟩
  · exact blk_put (blk_put HK.out 3 (.iface 107 (.pointer (some ⟨B, 0, none⟩))) rfl) 4 (.slice none 0 0) rfl
  · have hlt := blk_lt HB.out
    refine HS.out.later (fun k h1 h2 => ?_) ?_
    · exact (Below.heap_setCell _ ⟨b, 4, none⟩ _ k (show k ≠ b by omega)).trans (Below.heap_setCell _ ⟨b, 3, none⟩ _ k (show k ≠ b by omega))
    · exact (T5.set HK.out (by decide) _).trans (T5.set (blk_put HK.out 3 (.iface 107 (.pointer (some ⟨B, 0, none⟩))) rfl) (by decide) _)
  · exact ((Kb.of_below HS.out.bb.low).trans (Kb.set _ _)).trans (Kb.set _ _)
set_option maxHeartbeats 1000000 in
theorem once_byte (b : Nat) (prs : List (UInt8 × ByteArray)) (d st : Int) (A : Option Addr) (n c : Nat) (w : World) (hb : RepB w b d st .nilIface (.slice A n c)) (hn : n = (flat prs).length) (hC : Kd.C Kd.string w A n (flat prs)) (hc : n ≤ c) (hl : prs.length ≤ 50) (h2 : 2 ≤ prs.length) (h1 : ∀ p ∈ prs, p.2.size = 1) :
    Calls Tryz.prog 29 #[.pointer (some ⟨b, 0, none⟩)] w fun e w' => e = .returned (.tuple #[]) ∧ ∃ B, RepB w' b d st (.iface 103 (.pointer (some ⟨B, 0, none⟩))) (.slice none 0 0) ∧ w'.heap[B]? = some (.cells (row 256 fun c => .int .u8 (tabB prs c : Int)) 102 (0, 0)) ∧ Kb b w w' ∧ b < w.heap.size ∧ w.heap.size ≤ B := by
  subst hn
  have HD := Lib.hid (build_byte b prs w ⟨A, c, (blk_cell hb 4).trans rfl, hC, hc⟩ hl h2 h1)
  have HB := Lib.hid hb
  clear hC hc hl h2 h1 hb
  go_enter Tryz.func29, Tryz.ntmps29
  go_wp2_with (first | (go_at_call 40; refine HD.out.mono ?_))
  rintro e w1 ⟨B, rfl, hS⟩
  have HS := Lib.hid hS
  have hk : RepB w1 b d st .nilIface (.slice A (flat prs).length c) := blk_below HB.out hS.low
  have c3 : w1.cell? ⟨b, 3, none⟩ = some .nilIface := (blk_cell hk 3).trans rfl
  have c4 : w1.cell? ⟨b, 4, none⟩ = some (.slice A (flat prs).length c) := (blk_cell hk 4).trans rfl
  have f3 : w1.frozen? ⟨b, 3, none⟩ = false := blk_frozen hk 3
  have f4 : w1.frozen? ⟨b, 4, none⟩ = false := blk_frozen hk 4
  have HK := Lib.hid hk
  clear hS hk
  go_wp2_with fail
  go_end0
  refine ⟨rfl, B, ?_, ?_, ?_, blk_lt HB.out, HS.out.base⟩
  · exact blk_put (blk_put HK.out 3 (.iface 103 (.pointer (some ⟨B, 0, none⟩))) rfl) 4 (.slice none 0 0) rfl
  · have hlt := blk_lt HB.out
    have := HS.out.base
    exact ((Below.heap_setCell _ ⟨b, 4, none⟩ _ B (show B ≠ b by omega)).trans (Below.heap_setCell _ ⟨b, 3, none⟩ _ B (show B ≠ b by omega))).trans HS.out.blk
  · exact ((Kb.of_below HS.out.low).trans (Kb.set _ _)).trans (Kb.set _ _)
/-- Once.Do, not yet done, at a Replacer's block. -/
def DidStr (b : Nat) (prs : List (UInt8 × ByteArray)) (w w' : World) : Prop := ∃ B f, RepB w' b 1 0 (.iface 107 (.pointer (some ⟨B, 0, none⟩))) (.slice none 0 0) ∧ Tb w' B f prs ∧ Kb b w w'
def DidByte (b : Nat) (prs : List (UInt8 × ByteArray)) (w w' : World) : Prop := ∃ B, RepB w' b 1 0 (.iface 103 (.pointer (some ⟨B, 0, none⟩))) (.slice none 0 0) ∧ w'.heap[B]? = some (.cells (row 256 fun c => .int .u8 (tabB prs c : Int)) 102 (0, 0)) ∧ b ≠ B ∧ Kb b w w'
theorem C_set {w : World} {p : Addr} {u : Value} {A : Option Addr} {n : Nat} {xs : List ByteArray} (h : Kd.C Kd.string w A n xs) (hp : w.cell? p = some u) (hu : ∀ x, u ≠ .string x) (v : Value) : Kd.C Kd.string (w.setCell p v) A n xs := by
  refine ⟨h.1, h.2.1, fun h0 => ?_⟩
  obtain ⟨ad, e, hc⟩ := h.2.2 h0
  refine ⟨ad, e, fun j q hq => ?_⟩
  obtain ⟨c, h1, h2, h3⟩ := hc j q hq
  refine ⟨c, h1, h2, fun i x hx => ?_⟩
  have h4 := h3 i x hx
  have h7 : c = [.string q] := h2
  rw [h7] at hx
  have hxs : x = .string q := by
    cases i with
    | zero => simpa using hx.symm
    | succ i => simp at hx
  rw [World.cell?_setCell_other _ _ _ _ (fun e2 => by rw [← e2, hp] at h4; injection h4 with h5; exact hu q (h5.trans hxs))]
  exact h4
theorem Tb.set {w : World} {B b i : Nat} {f : Nat → Value} {l : List (UInt8 × ByteArray)} {d st : Int} {r o u : Value} (h : Tb w B f l) (hb : RepB w b d st r o) (hne : B ≠ b) (hp : w.cell? ⟨b, i, none⟩ = some u) (hu : ∀ x, u ≠ .string x) (v : Value) : Tb (w.setCell ⟨b, i, none⟩ v) B f l := by
  obtain ⟨T, n, h1, h2⟩ := h.top
  have hc : ∀ c u', w.cell? ⟨B, c, none⟩ = some u' → (w.setCell ⟨b, i, none⟩ v).cell? ⟨B, c, none⟩ = some u' := fun c u' hc => (World.cell?_setCell_other _ _ _ _ (fun e => hne (congrArg Addr.block e).symm)).trans hc
  exact ⟨fun c h3 => hc c _ (h.at_ c h3), ⟨T, n, hc _ _ h1, C_set h2 hp hu v⟩, fun c h3 => (h.slot c h3).keep (T5.set hb (by decide) v)⟩
set_option maxHeartbeats 1000000 in
theorem first_str (b : Nat) (prs : List (UInt8 × ByteArray)) (w : World) (hN : New w b (flat prs)) (hl : prs.length ≤ 50) (h2 : 2 ≤ prs.length) (h1 : ∀ p ∈ prs, p.2.size ≠ 1) (h3 : ∀ p ∈ prs, p.2.size ≤ 1000) (hnd : (prs.map (·.1)).Nodup) :
    Calls Tryz.prog 28 #[.pointer (some ⟨b, 0, none⟩), .func (.func 29) #[.pointer (some ⟨b, 0, none⟩)] #[]] w fun e w' => e = .returned (.tuple #[]) ∧ DidStr b prs w w' := by
  obtain ⟨A, c, hb, hC, hc⟩ := hN
  have hb1 : RepB (w.setCell ⟨b, 1, none⟩ (.int .i32 1)) b 0 1 .nilIface (.slice A (flat prs).length c) := blk_put hb 1 _ rfl
  have hC1 := C_set hC (p := ⟨b, 1, none⟩) (u := .int .i32 0) ((blk_cell hb 1).trans rfl) (fun x => by simp) (.int .i32 1)
  have hq := once_str b prs 0 1 A _ c _ hb1 rfl hC1 hc hl h2 h1 h3 hnd
  refine (Onc.do_first b 0 ⟨b, 0, none⟩ w (fun u => ∃ B f, RepB u b 0 1 (.iface 107 (.pointer (some ⟨B, 0, none⟩))) (.slice none 0 0) ∧ Tb u B f prs ∧ Kb b w u ∧ b < w.heap.size ∧ w.heap.size ≤ B) ((blk_cell hb 0).trans rfl) ((blk_cell hb 1).trans rfl) (blk_frozen hb 1) (hq.mono ?_)).mono ?_
  · rintro e w' ⟨rfl, B, f, hR, hT, hk, hbl, hbB⟩
    have hs : (w.setCell ⟨b, 1, none⟩ (.int .i32 1)).heap.size = w.heap.size := by simp [World.setCell]
    rw [hs] at hbl hbB
    exact ⟨rfl, ⟨B, f, hR, hT, (Kb.set w _).trans hk, hbl, hbB⟩, (blk_cell hR 0).trans rfl, (blk_cell hR 1).trans rfl, blk_frozen hR 0, blk_frozen hR 1⟩
  · rintro e w' ⟨rfl, u, ⟨B, f, hR, hT, hk, hbl, hbB⟩, rfl⟩
    have hR2 : RepB ((u.drew.setCell ⟨b, 0, none⟩ (.int .u32 1)).setCell ⟨b, 1, none⟩ (.int .i32 0)) b 1 0 (.iface 107 (.pointer (some ⟨B, 0, none⟩))) (.slice none 0 0) := blk_put (blk_put (blk_drew hR) 0 _ rfl) 1 _ rfl
    refine ⟨rfl, B, f, hR2, ?_, ((hk.trans (Kb.drew b u)).trans (Kb.set _ _)).trans (Kb.set _ _)⟩
    have hne : B ≠ b := by omega
    have h1 : Tb (u.drew.setCell ⟨b, 0, none⟩ (.int .u32 1)) B f prs := (hT.below (below_drew (Below.refl _ _))).set (blk_drew hR) hne ((blk_cell (blk_drew hR) 0).trans rfl) (fun x => by simp) _
    have hR1 : RepB (u.drew.setCell ⟨b, 0, none⟩ (.int .u32 1)) b 1 1 (.iface 107 (.pointer (some ⟨B, 0, none⟩))) (.slice none 0 0) := blk_put (blk_drew hR) 0 _ rfl
    exact h1.set hR1 hne ((blk_cell hR1 1).trans rfl) (fun x => by simp) _
set_option maxHeartbeats 1000000 in
theorem first_byte (b : Nat) (prs : List (UInt8 × ByteArray)) (w : World) (hN : New w b (flat prs)) (hl : prs.length ≤ 50) (h2 : 2 ≤ prs.length) (h1 : ∀ p ∈ prs, p.2.size = 1) :
    Calls Tryz.prog 28 #[.pointer (some ⟨b, 0, none⟩), .func (.func 29) #[.pointer (some ⟨b, 0, none⟩)] #[]] w fun e w' => e = .returned (.tuple #[]) ∧ DidByte b prs w w' := by
  obtain ⟨A, c, hb, hC, hc⟩ := hN
  have hb1 : RepB (w.setCell ⟨b, 1, none⟩ (.int .i32 1)) b 0 1 .nilIface (.slice A (flat prs).length c) := blk_put hb 1 _ rfl
  have hC1 := C_set hC (p := ⟨b, 1, none⟩) (u := .int .i32 0) ((blk_cell hb 1).trans rfl) (fun x => by simp) (.int .i32 1)
  have hq := once_byte b prs 0 1 A _ c _ hb1 rfl hC1 hc hl h2 h1
  refine (Onc.do_first b 0 ⟨b, 0, none⟩ w (fun u => ∃ B, RepB u b 0 1 (.iface 103 (.pointer (some ⟨B, 0, none⟩))) (.slice none 0 0) ∧ u.heap[B]? = some (.cells (row 256 fun c => .int .u8 (tabB prs c : Int)) 102 (0, 0)) ∧ Kb b w u ∧ b < w.heap.size ∧ w.heap.size ≤ B) ((blk_cell hb 0).trans rfl) ((blk_cell hb 1).trans rfl) (blk_frozen hb 1) (hq.mono ?_)).mono ?_
  · rintro e w' ⟨rfl, B, hR, hT, hk, hbl, hbB⟩
    have hs : (w.setCell ⟨b, 1, none⟩ (.int .i32 1)).heap.size = w.heap.size := by simp [World.setCell]
    rw [hs] at hbl hbB
    exact ⟨rfl, ⟨B, hR, hT, (Kb.set w _).trans hk, hbl, hbB⟩, (blk_cell hR 0).trans rfl, (blk_cell hR 1).trans rfl, blk_frozen hR 0, blk_frozen hR 1⟩
  · rintro e w' ⟨rfl, u, ⟨B, hR, hT, hk, hbl, hbB⟩, rfl⟩
    have hR2 : RepB ((u.drew.setCell ⟨b, 0, none⟩ (.int .u32 1)).setCell ⟨b, 1, none⟩ (.int .i32 0)) b 1 0 (.iface 103 (.pointer (some ⟨B, 0, none⟩))) (.slice none 0 0) := blk_put (blk_put (blk_drew hR) 0 _ rfl) 1 _ rfl
    have hne : B ≠ b := by omega
    exact ⟨rfl, B, hR2, ((Below.heap_setCell _ ⟨b, 1, none⟩ _ B hne).trans (Below.heap_setCell _ ⟨b, 0, none⟩ _ B hne)).trans hT, hne.symm, ((hk.trans (Kb.drew b u)).trans (Kb.set _ _)).trans (Kb.set _ _)⟩
theorem meth107 (a : Option Addr) (w : World) : (method 308 107 (.pointer a) "Replace").run Tryz.prog w = .ok (153, .pointer a) w := by kernel_rfl
theorem meth103 (a : Option Addr) (w : World) : (method 308 103 (.pointer a) "Replace").run Tryz.prog w = .ok (151, .pointer a) w := by kernel_rfl
set_option maxHeartbeats 1000000 in
/-- A text by a Replacer that is not yet built. -/
theorem replace_new (b : Nat) (prs : List (UInt8 × ByteArray)) (s : ByteArray) (w : World) (hN : New w b (flat prs)) (hs : s.size ≤ 1000000000) (hl : prs.length ≤ 50) (h2 : 2 ≤ prs.length) (h1 : ∀ p ∈ prs, p.2.size ≠ 1) (h0 : ∀ p ∈ prs, 0 < p.2.size) (h3 : ∀ p ∈ prs, p.2.size ≤ 1000) (hnd : (prs.map (·.1)).Nodup) :
    Calls Tryz.prog 20 #[.pointer (some ⟨b, 0, none⟩), .string s] w fun e w' => e = .returned (.string ⟨(outS prs s.data.toList).toArray⟩) ∧ Kb b w w' := by
  have HD := Lib.hid (first_str b prs w hN hl h2 h1 h3 hnd)
  have HP := Lib.hid (And.intro hs (And.intro hl (And.intro h3 (And.intro hnd h0))))
  have hmf : ∀ (fn : Fn) (first cap : Array Value) (w : World), (Instr.makeFunc fn first cap).run Tryz.prog w = .ok (.func fn first cap) w := fun _ _ _ _ => rfl
  have hm := meth107
  clear hN hs hl h2 h1 h3 hnd h0
  go_enter Tryz.func20, Tryz.ntmps20
  go_wp2_with (first | (go_at_call 28; refine HD.out.mono ?_))
  rintro e w1 ⟨rfl, B, f, hR, hT, hk⟩
  have c3 : w1.cell? ⟨b, 3, none⟩ = some (.iface 107 (.pointer (some ⟨B, 0, none⟩))) := (blk_cell hR 3).trans rfl
  have HR := Lib.hid (And.intro hR (And.intro hT hk))
  clear hR hT hk
  go_wp2_with (first | (go_at_call 153; refine (replace_str B f prs s w1 HR.out.2.1 HP.out.1 HP.out.2.1 HP.out.2.2.1 HP.out.2.2.2.1 HP.out.2.2.2.2).mono ?_))
  rintro e w2 ⟨rfl, hb⟩
  have HB := Lib.hid hb
  clear hb
  go_wp2_with fail
  go_ret
  exact ⟨rfl, HR.out.2.2.trans (Kb.of_below HB.out)⟩
/-- A byte by a table of pairs. -/
def tU (prs : List (UInt8 × ByteArray)) (y : UInt8) : UInt8 := UInt8.ofNat (tabB prs y.toNat)
theorem tabB_lt (prs : List (UInt8 × ByteArray)) : ∀ c, c < 256 → tabB prs c < 256 := by
  induction prs with
  | nil => exact fun c hc => hc
  | cons p l ih =>
    intro c hc
    simp only [tabB]
    split
    · exact UInt8.toNat_lt _
    · exact ih c hc
theorem tU_nat (prs : List (UInt8 × ByteArray)) (y : UInt8) : (tU prs y).toNat = tabB prs y.toNat := by
  unfold tU
  rw [UInt8.toNat_ofNat']
  exact Nat.mod_eq_of_lt (tabB_lt prs _ y.toNat_lt)
/-- A Replacer of bytes, built. -/
def Dn (w : World) (b : Nat) (prs : List (UInt8 × ByteArray)) : Prop := ∃ B, RepB w b 1 0 (.iface 103 (.pointer (some ⟨B, 0, none⟩))) (.slice none 0 0) ∧ w.heap[B]? = some (.cells (row 256 fun c => .int .u8 (tabB prs c : Int)) 102 (0, 0)) ∧ b ≠ B
theorem Dn.below {w w' : World} {b : Nat} {prs : List (UInt8 × ByteArray)} (h : Dn w b prs) (hb : Below w.heap.size w w') : Dn w' b prs := by
  obtain ⟨B, h1, h2, h3⟩ := h
  exact ⟨B, blk_below h1 hb, blk_below h2 hb, h3⟩
theorem tab_cell {w : World} {B : Nat} {prs : List (UInt8 × ByteArray)} (h : w.heap[B]? = some (.cells (row 256 fun c => .int .u8 (tabB prs c : Int)) 102 (0, 0))) (y : UInt8) : w.cell? ⟨B, y.toNat, none⟩ = some (.int .u8 ((tU prs y).toNat : Int)) := by
  rw [blk_cell h, row_get _ _ _ y.toNat_lt, tU_nat]
set_option maxHeartbeats 1000000 in
theorem bytes_new (b : Nat) (prs : List (UInt8 × ByteArray)) (s : ByteArray) (w : World) (hN : New w b (flat prs)) (hs : s.size ≤ 1000000000) (hl : prs.length ≤ 50) (h2 : 2 ≤ prs.length) (h1 : ∀ p ∈ prs, p.2.size = 1) :
    Calls Tryz.prog 20 #[.pointer (some ⟨b, 0, none⟩), .string s] w fun e w' => e = .returned (.string (bmap (tU prs) s)) ∧ Dn w' b prs ∧ Kb b w w' := by
  have HD := Lib.hid (first_byte b prs w hN hl h2 h1)
  have HP := Lib.hid hs
  have hmf : ∀ (fn : Fn) (first cap : Array Value) (w : World), (Instr.makeFunc fn first cap).run Tryz.prog w = .ok (.func fn first cap) w := fun _ _ _ _ => rfl
  have hm := meth103
  clear hN hs hl h2 h1
  go_enter Tryz.func20, Tryz.ntmps20
  go_wp2_with (first | (go_at_call 28; refine HD.out.mono ?_))
  rintro e w1 ⟨rfl, B, hR, hT, hne, hk⟩
  have c3 : w1.cell? ⟨b, 3, none⟩ = some (.iface 103 (.pointer (some ⟨B, 0, none⟩))) := (blk_cell hR 3).trans rfl
  have HR := Lib.hid (And.intro hR (And.intro hT (And.intro hne hk)))
  clear hR hT hk hne
  go_wp2_with (first | (go_at_call 151; refine (replace_byte B (tU prs) s (by have := HP.out; omega) w1 (fun y => tab_cell HR.out.2.1 y)).mono ?_))
  rintro e w2 ⟨rfl, hb⟩
  have HB := Lib.hid hb
  clear hb
  go_wp2_with fail
  go_ret
  exact ⟨rfl, ⟨B, blk_below HR.out.1 HB.out, blk_below HR.out.2.1 HB.out, HR.out.2.2.1⟩, HR.out.2.2.2.trans (Kb.of_below HB.out)⟩
set_option maxHeartbeats 1000000 in
theorem bytes_done (b : Nat) (prs : List (UInt8 × ByteArray)) (s : ByteArray) (w : World) (hN : Dn w b prs) (hs : s.size ≤ 1000000000) :
    Calls Tryz.prog 20 #[.pointer (some ⟨b, 0, none⟩), .string s] w fun e w' => e = .returned (.string (bmap (tU prs) s)) ∧ Dn w' b prs ∧ Kb b w w' := by
  obtain ⟨B, hR, hT, hne⟩ := hN
  have HD := Lib.hid (Onc.do_done ⟨b, 0, none⟩ 1 (by decide) (.func (.func 29) #[.pointer (some ⟨b, 0, none⟩)] #[]) w ((blk_cell hR 0).trans rfl))
  have HP := Lib.hid hs
  have hmf : ∀ (fn : Fn) (first cap : Array Value) (w : World), (Instr.makeFunc fn first cap).run Tryz.prog w = .ok (.func fn first cap) w := fun _ _ _ _ => rfl
  have hm := meth103
  have c3 : w.cell? ⟨b, 3, none⟩ = some (.iface 103 (.pointer (some ⟨B, 0, none⟩))) := (blk_cell hR 3).trans rfl
  have HR := Lib.hid (And.intro hR (And.intro hT hne))
  clear hR hT hne hs
  go_enter Tryz.func20, Tryz.ntmps20
  go_wp2_with (first | (go_at_call 28; refine HD.out.mono ?_))
  rintro e w1 ⟨rfl, rfl⟩
  go_wp2_with (first | (go_at_call 151; refine (replace_byte B (tU prs) s (by have := HP.out; omega) _ (fun y => tab_cell HR.out.2.1 y)).mono ?_))
  rintro e w2 ⟨rfl, hb⟩
  have HB := Lib.hid hb
  clear hb
  go_wp2_with fail
  go_ret
  exact ⟨rfl, ⟨B, blk_below HR.out.1 HB.out, blk_below HR.out.2.1 HB.out, HR.out.2.2⟩, Kb.of_below HB.out⟩
end Go.Proofs.YtdcgcccaaooclaaGreatDoor.Rep
end
