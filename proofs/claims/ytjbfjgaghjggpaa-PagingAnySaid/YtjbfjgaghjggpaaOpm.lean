/- A slice of members that comes in, with all their trees, reads as a row of them. -/
import Derived.Test.YtjbfjgaghjggpaaPrx0
import Derived.Deep.Slices
import Derived.Deep.Fields
import Derived.ChangeSame
import Derived.ProofKit
set_option linter.unusedVariables false
namespace Go.Proofs.Ytjbfjgaghjggpaa.Opm
open Go.ChangeShapes Go.WideShapes Go.Deep Go.RowKit Go.Proofs.Ytjbfjgaghjggpaa.Pr Go.Proofs.YtjbfjgaghjggpaaW.PrintWords
section
variable {H : Type} {enc : TypeId × Value → H} {P : Program} {w : World} {base : Nat} {spare : Nat → Bool} {held : Bool}
/-- A slice whose elements read as d's reads as a row of d's. -/
theorem rd_slice {α : Type} {d : Kd α} (z0 : α) {t e : TypeId} {fuel : Nat} {cs : List Value} {x : DataW H × List MemPlace} (ht : P.underlying t = some (.slice e)) (hsz : d.sz = P.cellsOf e)
    (hd : ∀ n, n < fuel → ∀ cs x, DataW.trod enc P w base spare held n e cs = some x → ∃ z, d.K w z cs) (h : DataW.trod enc P w base spare held fuel t cs = some x) :
    ∃ (l : List α) (A : Option Addr) (c : Nat), cs = [.slice A l.length c] ∧ l.length ≤ c ∧ d.C w A l.length l := by
  rcases DataW.trod_slice ht h with ⟨rfl, _⟩ | ⟨a, len, cap, elems, rest, n, hn, rfl, _, _, hl, hm, hlen, hel, _, _⟩
  · exact ⟨[], none, 0, rfl, Nat.le_refl _, Kd.C_nil d w⟩
  · have hx : ∀ i, ∃ z : α, i < len → ∃ cs', cs'.length = d.sz ∧ d.K w z cs' ∧ ∀ j u, cs'[j]? = some u → w.cell? (a.add (i * d.sz + j)) = some u := by
      intro i
      by_cases hi : i < len
      · have h1 := hel i hi
        rw [List.getElem?_eq_getElem (by omega)] at h1
        obtain ⟨cs', hc, ht'⟩ := Option.bind_eq_some_iff.1 h1
        obtain ⟨z, hz⟩ := hd n (by omega) _ _ ht'
        obtain ⟨_, hcl, hat⟩ := World.cells?_some hc
        refine ⟨z, fun _ => ⟨cs', by rw [hcl, hsz], hz, fun j u hj => ?_⟩⟩
        have hjl : j < cs'.length := (List.getElem?_eq_some_iff.1 hj).1
        rw [hsz, ← Go.Deep.add_add, hat j (by omega), hj]
      · exact ⟨z0, fun h => absurd h hi⟩
    refine ⟨(List.range len).map (fun i => Classical.choose (hx i)), some a, cap, by simp, by simpa using hl, ?_⟩
    rw [List.length_map, List.length_range]
    refine ⟨by simp, Nat.le_trans hl (Nat.le_trans hm (by decide)), fun hp => ⟨a, rfl, fun j q hj => ?_⟩⟩
    rw [List.getElem?_map] at hj
    obtain ⟨i, hi2, rfl⟩ := Option.map_eq_some_iff.1 hj
    obtain ⟨hjl, hij⟩ := List.getElem?_eq_some_iff.1 hi2
    simp at hij hjl
    subst hij
    exact Classical.choose_spec (hx j) (by omega)
end
theorem cells3 : Try.prog.cellsOf 3 = 1 := by kernel_rfl
theorem cells9 : Try.prog.cellsOf 9 = 1 := by kernel_rfl
theorem cells27 : Try.prog.cellsOf 27 = 1 := by kernel_rfl
theorem cells28 : Try.prog.cellsOf 28 = 1 := by kernel_rfl
theorem cells59 : Try.prog.cellsOf 59 = 3 := by kernel_rfl
theorem cells30 : Try.prog.cellsOf 30 = 6 := by kernel_rfl
theorem cells32 : Try.prog.cellsOf 32 = 9 := by kernel_rfl
section
variable {H : Type} {enc : TypeId × Value → H} {w : World} {base : Nat} {spare : Nat → Bool} {held : Bool}
/-- An attribute. -/
theorem rd_attr {fuel : Nat} {cs : List Value} {x : DataW H × List MemPlace} (h : DataW.trod enc Try.prog w base spare held fuel 59 cs = some x) : ∃ z, k59.K w z cs := by
  obtain ⟨xs, n, hn, _, hl, hlen, hf⟩ := DataW.trod_struct Try.underlying59 h
  rw [cells59] at hl
  match cs, hl, xs, hlen with
  | [v0, v1, v2], _, [x0, x1, x2], _ =>
    have h0 : DataW.trod enc Try.prog w base spare held n 9 (([v0, v1, v2].drop 0).take (Try.prog.cellsOf 9)) = some x0 := hf 0 _ rfl
    have h1 : DataW.trod enc Try.prog w base spare held n 9 (([v0, v1, v2].drop 1).take (Try.prog.cellsOf 9)) = some x1 := hf 1 _ rfl
    have h2 : DataW.trod enc Try.prog w base spare held n 9 (([v0, v1, v2].drop 2).take (Try.prog.cellsOf 9)) = some x2 := hf 2 _ rfl
    rw [cells9] at h0 h1 h2
    obtain ⟨s0, e0, _⟩ := DataW.trod_string Try.underlying9 h0
    obtain ⟨s1, e1, _⟩ := DataW.trod_string Try.underlying9 h1
    obtain ⟨s2, e2, _⟩ := DataW.trod_string Try.underlying9 h2
    obtain rfl : v0 = .string s0 := (List.cons.inj e0).1
    obtain rfl : v1 = .string s1 := (List.cons.inj e1).1
    obtain rfl : v2 = .string s2 := (List.cons.inj e2).1
    exact ⟨⟨s0, s1, s2⟩, k59_mk w _⟩
/-- A tree. -/
theorem rd_upto (N : Nat) : ∀ fuel, fuel ≤ N → ∀ (cs : List Value) (x : DataW H × List MemPlace), DataW.trod enc Try.prog w base spare held fuel 30 cs = some x → ∃ z, (Kd.upto F30 6 [30, 59] N).K w z cs := by
  induction N with
  | zero =>
    intro fuel hfu cs x h
    obtain rfl : fuel = 0 := by omega
    simp [DataW.trod] at h
  | succ N ih =>
    intro fuel hfu cs x h
    obtain ⟨xs, n, hn, _, hl, hlen, hf⟩ := DataW.trod_struct Try.underlying30 h
    rw [cells30] at hl
    match cs, hl, xs, hlen with
    | [v0, v1, v2, v3, v4, v5], _, [x0, x1, x2, x3, x4, x5], _ =>
      have h0 : DataW.trod enc Try.prog w base spare held n 3 (([v0, v1, v2, v3, v4, v5].drop 0).take (Try.prog.cellsOf 3)) = some x0 := hf 0 _ rfl
      have h1 : DataW.trod enc Try.prog w base spare held n 9 (([v0, v1, v2, v3, v4, v5].drop 1).take (Try.prog.cellsOf 9)) = some x1 := hf 1 _ rfl
      have h2 : DataW.trod enc Try.prog w base spare held n 9 (([v0, v1, v2, v3, v4, v5].drop 2).take (Try.prog.cellsOf 9)) = some x2 := hf 2 _ rfl
      have h3 : DataW.trod enc Try.prog w base spare held n 27 (([v0, v1, v2, v3, v4, v5].drop 3).take (Try.prog.cellsOf 27)) = some x3 := hf 3 _ rfl
      have h4 : DataW.trod enc Try.prog w base spare held n 28 (([v0, v1, v2, v3, v4, v5].drop 4).take (Try.prog.cellsOf 28)) = some x4 := hf 4 _ rfl
      have h5 : DataW.trod enc Try.prog w base spare held n 9 (([v0, v1, v2, v3, v4, v5].drop 5).take (Try.prog.cellsOf 9)) = some x5 := hf 5 _ rfl
      rw [cells3] at h0
      rw [cells9] at h1 h2 h5
      rw [cells27] at h3
      rw [cells28] at h4
      obtain ⟨s0, e0, _⟩ := DataW.trod_int Try.underlying3 h0
      obtain ⟨s1, e1, _⟩ := DataW.trod_string Try.underlying9 h1
      obtain ⟨s2, e2, _⟩ := DataW.trod_string Try.underlying9 h2
      obtain ⟨l3, A3, c3, e3, b3, g3⟩ := rd_slice (d := k59) z59 Try.underlying27 (by rw [cells59]; rfl) (fun m _ cs x hx => rd_attr hx) h3
      obtain ⟨l4, A4, c4, e4, b4, g4⟩ := rd_slice (d := Kd.upto F30 6 [30, 59] N) z30 Try.underlying28 (by rw [cells30]; exact sz30 N) (fun m hm cs x hx => ih m (by omega) cs x hx) h4
      obtain ⟨s5, e5, _⟩ := DataW.trod_string Try.underlying9 h5
      obtain rfl : v0 = .int .i64 s0 := (List.cons.inj e0).1
      obtain rfl : v1 = .string s1 := (List.cons.inj e1).1
      obtain rfl : v2 = .string s2 := (List.cons.inj e2).1
      obtain rfl : v3 = .slice A3 l3.length c3 := (List.cons.inj e3).1
      obtain rfl : v4 = .slice A4 l4.length c4 := (List.cons.inj e4).1
      obtain rfl : v5 = .string s5 := (List.cons.inj e5).1
      exact ⟨⟨s0, s1, s2, l3, l4, s5⟩, ⟨[.int .i64 s0], [.string s1, .string s2, .slice A3 l3.length c3, .slice A4 l4.length c4, .string s5], rfl, rfl, ⟨[.string s1], [.string s2, .slice A3 l3.length c3, .slice A4 l4.length c4, .string s5], rfl, rfl, ⟨[.string s2], [.slice A3 l3.length c3, .slice A4 l4.length c4, .string s5], rfl, rfl, ⟨[.slice A3 l3.length c3], [.slice A4 l4.length c4, .string s5], rfl, ⟨A3, c3, rfl, b3, g3⟩, ⟨[.slice A4 l4.length c4], [.string s5], rfl, ⟨A4, c4, rfl, b4, g4⟩, rfl⟩⟩⟩⟩⟩⟩
theorem rd_node {fuel : Nat} {cs : List Value} {x : DataW H × List MemPlace} (h : DataW.trod enc Try.prog w base spare held fuel 30 cs = some x) : ∃ z, k30.K w z cs := by
  obtain ⟨z, hz⟩ := rd_upto fuel fuel (Nat.le_refl _) cs x h
  exact ⟨z, fuel, hz⟩
/-- A member. -/
theorem rd_member {fuel : Nat} {cs : List Value} {x : DataW H × List MemPlace} (h : DataW.trod enc Try.prog w base spare held fuel 32 cs = some x) : ∃ z, k32.K w z cs := by
  obtain ⟨xs, n, hn, _, hl, hlen, hf⟩ := DataW.trod_struct Try.underlying32 h
  rw [cells32] at hl
  match cs, hl, xs, hlen with
  | [v0, v1, v2, v3, v4, v5, v6, v7, v8], _, [x0, x1, x2, x3], _ =>
    have h0 : DataW.trod enc Try.prog w base spare held n 3 (([v0, v1, v2, v3, v4, v5, v6, v7, v8].drop 0).take (Try.prog.cellsOf 3)) = some x0 := hf 0 _ rfl
    have h1 : DataW.trod enc Try.prog w base spare held n 3 (([v0, v1, v2, v3, v4, v5, v6, v7, v8].drop 1).take (Try.prog.cellsOf 3)) = some x1 := hf 1 _ rfl
    have h2 : DataW.trod enc Try.prog w base spare held n 9 (([v0, v1, v2, v3, v4, v5, v6, v7, v8].drop 2).take (Try.prog.cellsOf 9)) = some x2 := hf 2 _ rfl
    have h3 : DataW.trod enc Try.prog w base spare held n 30 (([v0, v1, v2, v3, v4, v5, v6, v7, v8].drop 3).take (Try.prog.cellsOf 30)) = some x3 := hf 3 _ rfl
    rw [cells3] at h0 h1
    rw [cells9] at h2
    rw [cells30] at h3
    obtain ⟨s0, e0, _⟩ := DataW.trod_int Try.underlying3 h0
    obtain ⟨s1, e1, _⟩ := DataW.trod_int Try.underlying3 h1
    obtain ⟨s2, e2, _⟩ := DataW.trod_string Try.underlying9 h2
    obtain ⟨z, hz⟩ := rd_node h3
    obtain rfl : v0 = .int .i64 s0 := (List.cons.inj e0).1
    obtain rfl : v1 = .int .i64 s1 := (List.cons.inj e1).1
    obtain rfl : v2 = .string s2 := (List.cons.inj e2).1
    exact ⟨⟨s0, s1, s2, z⟩, ⟨[.int .i64 s0], [.int .i64 s1, .string s2, v3, v4, v5, v6, v7, v8], rfl, rfl, ⟨[.int .i64 s1], [.string s2, v3, v4, v5, v6, v7, v8], rfl, rfl, ⟨[.string s2], [v3, v4, v5, v6, v7, v8], rfl, rfl, hz⟩⟩⟩⟩
/-- A slice of members. -/
theorem read_members {a : Option Addr} {len cap : Nat} {d : DataW H} {p : List MemPlace} (h : DataW.Trod enc Try.prog w base spare held 24 (.slice a len cap) d p) : ∃ l : List S32, l.length = len ∧ len ≤ cap ∧ Kd.C k32 w a l.length l := by
  obtain ⟨fuel, hf⟩ := h
  obtain ⟨l, A, c, e, b, g⟩ := rd_slice (d := k32) z32 Try.underlying24 (by rw [cells32]; rfl) (fun m _ cs x hx => rd_member hx) hf
  obtain ⟨rfl, rfl, rfl⟩ : a = A ∧ len = l.length ∧ cap = c := by
    have := (List.cons.inj (show [Value.slice a len cap] = [.slice A l.length c] from e)).1
    injection this with h1 h2 h3
    exact ⟨h1, h2, h3⟩
  exact ⟨l, rfl, b, g⟩
end
end Go.Proofs.Ytjbfjgaghjggpaa.Opm
