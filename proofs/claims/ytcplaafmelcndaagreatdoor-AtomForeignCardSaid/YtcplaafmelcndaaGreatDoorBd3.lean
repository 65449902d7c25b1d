/- 5 texts in one file: Opg, Siz, Med, Mdq, Mdp. -/
import Derived.Test.YtcplaafmelcndaaGreatDoorBd1
import Derived.Deep.Slices
import Derived.Deep.Fields
import Derived.ChangeSame
import Derived.ProofKit
import Derived.SizedLaws
import Derived.OpenShut
import Derived.Test.YtcplaafmelcndaaGreatDoorPrx1
import Derived.Laws.AppendOwn
import Derived.Maps.AppendAt
import Derived.OneCell
import Derived.OwnWalk
import Derived.Deep.LoopGhost
section
/- A tree that comes in reads as a node; no part of it is longer than its weight allows. A slice of bits reads as a row of them. -/
set_option linter.unusedVariables false
set_option maxRecDepth 20000
namespace Go.Proofs.YtcplaafmelcndaaGreatDoor.Opg
open Go.ChangeShapes Go.WideShapes Go.Deep Go.RowKit Go.Proofs.YtcplaafmelcndaaGreatDoor.Pr Go.Proofs.YtcplaafmelcndaaGreatDoorW.PrintWords
section
variable {H : Type} {enc : TypeId × Value → H} {P : Program} {w : World} {base : Nat} {spare : Nat → Bool} {held : Bool}
/-- No part of what was read is heavier than may be. -/
def WOK {H : Type} (P : Program) (d : DataW H) (t : TypeId) : Prop := ∀ n ∈ d.weights P t, n ≤ 140737488351232
theorem weightsAll_mem {H : Type} {P : Program} {e : TypeId} : ∀ {l : List (DataW H)} {d : DataW H}, d ∈ l → ∀ n ∈ d.weights P e, n ∈ DataW.weightsAll P e l
  | [], _, h => by cases h
  | x :: r, d, h => by
    intro n hn
    rcases List.mem_cons.1 h with rfl | h
    · simp [DataW.weightsAll, hn]
    · simp [DataW.weightsAll, weightsAll_mem h n hn]
theorem rd_slice {α : Type} {d : Kd α} {G : α → Prop} (z0 : α) {t e : TypeId} {fuel : Nat} {cs : List Value} {x : DataW H × List MemPlace} (ht : P.underlying t = some (.slice e)) (hsz : d.sz = P.cellsOf e)
    (hd : ∀ n, n < fuel → ∀ cs x, DataW.trod enc P w base spare held n e cs = some x → ∃ z, d.K w z cs ∧ (WOK P x.1 e → G z)) (h : DataW.trod enc P w base spare held fuel t cs = some x) :
    ∃ (l : List α) (A : Option Addr) (c : Nat), cs = [.slice A l.length c] ∧ l.length ≤ c ∧ d.C w A l.length l ∧ (WOK P x.1 t → l.length * P.bytesOf e ≤ 140737488351232 ∧ ∀ z ∈ l, G z) := by
  rcases DataW.trod_slice ht h with ⟨rfl, rfl⟩ | ⟨a, len, cap, elems, rest, n, hn, rfl, hxe, _, hl, hm, hlen, hel, _, _⟩
  · exact ⟨[], none, 0, rfl, Nat.le_refl _, Kd.C_nil d w, fun _ => ⟨by simp, fun z hz => by cases hz⟩⟩
  · have hx : ∀ i, ∃ z : α, i < len → (∃ cs', cs'.length = d.sz ∧ d.K w z cs' ∧ ∀ j u, cs'[j]? = some u → w.cell? (a.add (i * d.sz + j)) = some u) ∧ (WOK P x.1 t → G z) := by
      intro i
      by_cases hi : i < len
      · have h1 := hel i hi
        rw [List.getElem?_eq_getElem (by omega)] at h1
        obtain ⟨cs', hc, ht'⟩ := Option.bind_eq_some_iff.1 h1
        obtain ⟨z, hz, hg⟩ := hd n (by omega) _ _ ht'
        obtain ⟨_, hcl, hat⟩ := World.cells?_some hc
        refine ⟨z, fun _ => ⟨⟨cs', by rw [hcl, hsz], hz, fun j u hj => ?_⟩, fun hw => hg (fun m hm => hw m ?_)⟩⟩
        · have hjl : j < cs'.length := (List.getElem?_eq_some_iff.1 hj).1
          rw [hsz, ← Go.Deep.add_add, hat j (by omega), hj]
        · rw [hxe]
          have hin : (elems[i]'(by omega)).1 ∈ elems.map (·.1) := List.mem_map.2 ⟨_, List.getElem_mem _, rfl⟩
          simp only [DataW.weights, ht]
          exact List.mem_cons_of_mem _ (List.mem_append_left _ (weightsAll_mem hin m hm))
      · exact ⟨z0, fun h => absurd h hi⟩
    refine ⟨(List.range len).map (fun i => Classical.choose (hx i)), some a, cap, by simp, by simpa using hl, ?_, fun hw => ⟨?_, fun z hz => ?_⟩⟩
    · rw [List.length_map, List.length_range]
      refine ⟨by simp, Nat.le_trans hl (Nat.le_trans hm (by decide)), fun hp => ⟨a, rfl, fun j q hj => ?_⟩⟩
      rw [List.getElem?_map] at hj
      obtain ⟨i, hi2, rfl⟩ := Option.map_eq_some_iff.1 hj
      obtain ⟨hjl, hij⟩ := List.getElem?_eq_some_iff.1 hi2
      simp at hij hjl
      subst hij
      exact (Classical.choose_spec (hx j) (by omega)).1
    · rw [List.length_map, List.length_range]
      have := hw ((elems.map (·.1)).length * P.bytesOf e + (rest.map (·.1)).length * P.bytesOf e) (by rw [hxe]; simp only [DataW.weights, ht]; rw [← Nat.add_mul]; exact List.mem_cons_self ..)
      rw [List.length_map, hlen] at this
      omega
    · obtain ⟨i, hi, rfl⟩ := List.mem_map.1 hz
      exact (Classical.choose_spec (hx i) (by simpa using hi)).2 hw
end
def gs (s : ByteArray) : Prop := s.size ≤ 140737488351232
def Good41 (a : S41) : Prop := gs a.f0 ∧ gs a.f1 ∧ gs a.f2
/-- A node no part of which is longer than may be. -/
inductive Good25 : S25 → Prop
  | mk (x : S25) : gs x.f1 → gs x.f2 → gs x.f5 → x.f3.length * 48 ≤ 140737488351232 → x.f4.length * 104 ≤ 140737488351232 → (∀ a ∈ x.f3, Good41 a) → (∀ y ∈ x.f4, Good25 y) → Good25 x
theorem wok_str {H : Type} {P : Program} {s : ByteArray} {t : TypeId} (h : WOK (H := H) P (.lit (.string s.data.toList)) t) : gs s := by
  have := h s.data.toList.length (by simp [DataW.weights])
  simpa [gs] using this
theorem wok_part {H : Type} {P : Program} {fs : Array Field} {t : TypeId} {l : List (DataW H)} (ht : P.underlying t = some (.struct fs)) (h : WOK P (.agg l) t) {j : Nat} {t' : TypeId} {d : DataW H} (h1 : (fs.toList.map (·.type))[j]? = some t') (h2 : l[j]? = some d) : WOK P d t' :=
  fun n hn => h n (by simp only [DataW.weights, ht]; exact DataW.weights_mem_each h1 h2 n hn)
theorem bytes41 : Tryz.prog.bytesOf 41 = 48 := by kernel_rfl
theorem bytes25 : Tryz.prog.bytesOf 25 = 104 := by kernel_rfl
theorem cells3 : Tryz.prog.cellsOf 3 = 1 := by kernel_rfl
theorem cells9 : Tryz.prog.cellsOf 9 = 1 := by kernel_rfl
theorem cells22 : Tryz.prog.cellsOf 22 = 1 := by kernel_rfl
theorem cells23 : Tryz.prog.cellsOf 23 = 1 := by kernel_rfl
theorem cells41 : Tryz.prog.cellsOf 41 = 3 := by kernel_rfl
theorem cells25 : Tryz.prog.cellsOf 25 = 6 := by kernel_rfl
section
variable {H : Type} {enc : TypeId × Value → H} {w : World} {base : Nat} {spare : Nat → Bool} {held : Bool}
/-- An attribute. -/
theorem rd_attr {fuel : Nat} {cs : List Value} {x : DataW H × List MemPlace} (h : DataW.trod enc Tryz.prog w base spare held fuel 41 cs = some x) : ∃ z, k41.K w z cs ∧ (WOK Tryz.prog x.1 41 → Good41 z) := by
  obtain ⟨xs, n, hn, hxe, hl, hlen, hf⟩ := DataW.trod_struct Tryz.underlying41 h
  rw [cells41] at hl
  match cs, hl, xs, hlen with
  | [v0, v1, v2], _, [x0, x1, x2], _ =>
    have h0 : DataW.trod enc Tryz.prog w base spare held n 9 (([v0, v1, v2].drop 0).take (Tryz.prog.cellsOf 9)) = some x0 := hf 0 _ rfl
    have h1 : DataW.trod enc Tryz.prog w base spare held n 9 (([v0, v1, v2].drop 1).take (Tryz.prog.cellsOf 9)) = some x1 := hf 1 _ rfl
    have h2 : DataW.trod enc Tryz.prog w base spare held n 9 (([v0, v1, v2].drop 2).take (Tryz.prog.cellsOf 9)) = some x2 := hf 2 _ rfl
    rw [cells9] at h0 h1 h2
    obtain ⟨s0, e0, q0, _⟩ := DataW.trod_string Tryz.underlying9 h0
    obtain ⟨s1, e1, q1, _⟩ := DataW.trod_string Tryz.underlying9 h1
    obtain ⟨s2, e2, q2, _⟩ := DataW.trod_string Tryz.underlying9 h2
    obtain rfl : v0 = .string s0 := (List.cons.inj e0).1
    obtain rfl : v1 = .string s1 := (List.cons.inj e1).1
    obtain rfl : v2 = .string s2 := (List.cons.inj e2).1
    refine ⟨⟨s0, s1, s2⟩, k41_mk w _, fun hw => ?_⟩
    rw [hxe, q0, q1, q2] at hw
    exact ⟨wok_str (wok_part Tryz.underlying41 hw (j := 0) (t' := 9) rfl rfl), wok_str (wok_part Tryz.underlying41 hw (j := 1) (t' := 9) rfl rfl), wok_str (wok_part Tryz.underlying41 hw (j := 2) (t' := 9) rfl rfl)⟩
/-- A tree. -/
theorem rd_upto (N : Nat) : ∀ fuel, fuel ≤ N → ∀ (cs : List Value) (x : DataW H × List MemPlace), DataW.trod enc Tryz.prog w base spare held fuel 25 cs = some x → ∃ z, (Kd.upto F25 6 [25, 41] N).K w z cs ∧ (WOK Tryz.prog x.1 25 → Good25 z) := by
  induction N with
  | zero =>
    intro fuel hfu cs x h
    obtain rfl : fuel = 0 := by omega
    simp [DataW.trod] at h
  | succ N ih =>
    intro fuel hfu cs x h
    obtain ⟨xs, n, hn, hxe, hl, hlen, hf⟩ := DataW.trod_struct Tryz.underlying25 h
    rw [cells25] at hl
    match cs, hl, xs, hlen with
    | [v0, v1, v2, v3, v4, v5], _, [x0, x1, x2, x3, x4, x5], _ =>
      have h0 : DataW.trod enc Tryz.prog w base spare held n 3 (([v0, v1, v2, v3, v4, v5].drop 0).take (Tryz.prog.cellsOf 3)) = some x0 := hf 0 _ rfl
      have h1 : DataW.trod enc Tryz.prog w base spare held n 9 (([v0, v1, v2, v3, v4, v5].drop 1).take (Tryz.prog.cellsOf 9)) = some x1 := hf 1 _ rfl
      have h2 : DataW.trod enc Tryz.prog w base spare held n 9 (([v0, v1, v2, v3, v4, v5].drop 2).take (Tryz.prog.cellsOf 9)) = some x2 := hf 2 _ rfl
      have h3 : DataW.trod enc Tryz.prog w base spare held n 22 (([v0, v1, v2, v3, v4, v5].drop 3).take (Tryz.prog.cellsOf 22)) = some x3 := hf 3 _ rfl
      have h4 : DataW.trod enc Tryz.prog w base spare held n 23 (([v0, v1, v2, v3, v4, v5].drop 4).take (Tryz.prog.cellsOf 23)) = some x4 := hf 4 _ rfl
      have h5 : DataW.trod enc Tryz.prog w base spare held n 9 (([v0, v1, v2, v3, v4, v5].drop 5).take (Tryz.prog.cellsOf 9)) = some x5 := hf 5 _ rfl
      rw [cells3] at h0
      rw [cells9] at h1 h2 h5
      rw [cells22] at h3
      rw [cells23] at h4
      obtain ⟨s0, e0, _⟩ := DataW.trod_int Tryz.underlying3 h0
      obtain ⟨s1, e1, q1, _⟩ := DataW.trod_string Tryz.underlying9 h1
      obtain ⟨s2, e2, q2, _⟩ := DataW.trod_string Tryz.underlying9 h2
      obtain ⟨l3, A3, c3, e3, b3, g3, k3⟩ := rd_slice (d := k41) (G := Good41) z41 Tryz.underlying22 (by rw [cells41]; rfl) (fun m _ cs x hx => rd_attr hx) h3
      obtain ⟨l4, A4, c4, e4, b4, g4, k4⟩ := rd_slice (d := Kd.upto F25 6 [25, 41] N) (G := Good25) z25 Tryz.underlying23 (by rw [cells25]; exact sz25 N) (fun m hm cs x hx => ih m (by omega) cs x hx) h4
      obtain ⟨s5, e5, q5, _⟩ := DataW.trod_string Tryz.underlying9 h5
      obtain rfl : v0 = .int .i64 s0 := (List.cons.inj e0).1
      obtain rfl : v1 = .string s1 := (List.cons.inj e1).1
      obtain rfl : v2 = .string s2 := (List.cons.inj e2).1
      obtain rfl : v3 = .slice A3 l3.length c3 := (List.cons.inj e3).1
      obtain rfl : v4 = .slice A4 l4.length c4 := (List.cons.inj e4).1
      obtain rfl : v5 = .string s5 := (List.cons.inj e5).1
      refine ⟨⟨s0, s1, s2, l3, l4, s5⟩, ⟨[.int .i64 s0], [.string s1, .string s2, .slice A3 l3.length c3, .slice A4 l4.length c4, .string s5], rfl, rfl, ⟨[.string s1], [.string s2, .slice A3 l3.length c3, .slice A4 l4.length c4, .string s5], rfl, rfl, ⟨[.string s2], [.slice A3 l3.length c3, .slice A4 l4.length c4, .string s5], rfl, rfl, ⟨[.slice A3 l3.length c3], [.slice A4 l4.length c4, .string s5], rfl, ⟨A3, c3, rfl, b3, g3⟩, ⟨[.slice A4 l4.length c4], [.string s5], rfl, ⟨A4, c4, rfl, b4, g4⟩, rfl⟩⟩⟩⟩⟩, fun hw => ?_⟩
      rw [hxe] at hw
      have w1 := wok_part Tryz.underlying25 hw (j := 1) (t' := 9) rfl rfl
      have w2 := wok_part Tryz.underlying25 hw (j := 2) (t' := 9) rfl rfl
      have w3 := k3 (wok_part Tryz.underlying25 hw (j := 3) (t' := 22) rfl rfl)
      have w4 := k4 (wok_part Tryz.underlying25 hw (j := 4) (t' := 23) rfl rfl)
      have w5 := wok_part Tryz.underlying25 hw (j := 5) (t' := 9) rfl rfl
      rw [bytes41] at w3
      rw [bytes25] at w4
      rw [q1] at w1
      rw [q2] at w2
      rw [q5] at w5
      exact Good25.mk _ (wok_str w1) (wok_str w2) (wok_str w5) w3.1 w4.1 w3.2 w4.2
theorem rd_node {fuel : Nat} {cs : List Value} {x : DataW H × List MemPlace} (h : DataW.trod enc Tryz.prog w base spare held fuel 25 cs = some x) : ∃ z, k25.K w z cs ∧ (WOK Tryz.prog x.1 25 → Good25 z) := by
  obtain ⟨z, hz, hg⟩ := rd_upto fuel fuel (Nat.le_refl _) cs x h
  exact ⟨z, ⟨fuel, hz⟩, hg⟩
/-- A node that comes in. -/
theorem read_node {v : Value} {d : DataW H} {p : List MemPlace} {ts : List TypeId} {ds : List (DataW H)} {j : Nat} (hsz : (DataW.weightsEach Tryz.prog ts ds).all (· ≤ reachBytes) = true) (ht : ts[j]? = some 25) (hd : ds[j]? = some d)
    (h : DataW.Trod enc Tryz.prog w base spare held 25 v d p) : ∃ z, k25.K w z v.cells.toList ∧ Good25 z := by
  obtain ⟨fuel, hf⟩ := h
  obtain ⟨z, hz, hg⟩ := rd_node hf
  exact ⟨z, hz, hg (fun n hn => by
    have := List.all_eq_true.1 hsz _ (DataW.weights_mem_each ht hd n hn)
    exact of_decide_eq_true this)⟩
end
theorem cells36 : Tryz.prog.cellsOf 36 = 3 := by kernel_rfl
theorem bytes36 : Tryz.prog.bytesOf 36 = 3 := by kernel_rfl
theorem cells5 : Tryz.prog.cellsOf 5 = 1 := by kernel_rfl
def GoodB (z : S36) : Prop := (0 ≤ z.f0 ∧ z.f0 ≤ 255) ∧ (0 ≤ z.f1 ∧ z.f1 ≤ 255) ∧ (0 ≤ z.f2 ∧ z.f2 ≤ 255)
section
variable {H : Type} {enc : TypeId × Value → H} {w : World} {base : Nat} {spare : Nat → Bool} {held : Bool}
theorem rd_bit {fuel : Nat} {cs : List Value} {x : DataW H × List MemPlace} (h : DataW.trod enc Tryz.prog w base spare held fuel 36 cs = some x) : ∃ z, k36.K w z cs ∧ (WOK Tryz.prog x.1 36 → GoodB z) := by
  obtain ⟨xs, n, hn, hxe, hl, hlen, hf⟩ := DataW.trod_struct Tryz.underlying36 h
  rw [cells36] at hl
  match cs, hl, xs, hlen with
  | [v0, v1, v2], _, [x0, x1, x2], _ =>
    have h0 : DataW.trod enc Tryz.prog w base spare held n 5 (([v0, v1, v2].drop 0).take (Tryz.prog.cellsOf 5)) = some x0 := hf 0 _ rfl
    have h1 : DataW.trod enc Tryz.prog w base spare held n 5 (([v0, v1, v2].drop 1).take (Tryz.prog.cellsOf 5)) = some x1 := hf 1 _ rfl
    have h2 : DataW.trod enc Tryz.prog w base spare held n 5 (([v0, v1, v2].drop 2).take (Tryz.prog.cellsOf 5)) = some x2 := hf 2 _ rfl
    rw [cells5] at h0 h1 h2
    obtain ⟨s0, e0, q0, b0⟩ := DataW.trod_int Tryz.underlying5 h0
    obtain ⟨s1, e1, q1, b1⟩ := DataW.trod_int Tryz.underlying5 h1
    obtain ⟨s2, e2, q2, b2⟩ := DataW.trod_int Tryz.underlying5 h2
    obtain rfl : v0 = .int .u8 s0 := (List.cons.inj e0).1
    obtain rfl : v1 = .int .u8 s1 := (List.cons.inj e1).1
    obtain rfl : v2 = .int .u8 s2 := (List.cons.inj e2).1
    exact ⟨⟨s0, s1, s2⟩, k36_mk w _, fun _ => ⟨Go.bounds_u8 b0, Go.bounds_u8 b1, Go.bounds_u8 b2⟩⟩
/-- A slice of bits. -/
theorem read_bits {a : Option Addr} {len cap : Nat} {d : DataW H} {p : List MemPlace} {ts : List TypeId} {ds : List (DataW H)} {j : Nat} (hsz : (DataW.weightsEach Tryz.prog ts ds).all (· ≤ reachBytes) = true) (ht : ts[j]? = some 32) (hd : ds[j]? = some d)
    (h : DataW.Trod enc Tryz.prog w base spare held 32 (.slice a len cap) d p) : ∃ l : List S36, l.length = len ∧ len ≤ cap ∧ Kd.C k36 w a l.length l ∧ l.length * 3 ≤ 140737488351232 ∧ ∀ m ∈ l, GoodB m := by
  obtain ⟨fuel, hf⟩ := h
  obtain ⟨l, A, c, e, b, g, k⟩ := rd_slice (d := k36) (G := GoodB) z36 Tryz.underlying32 (by rw [cells36]; rfl) (fun m _ cs x hx => rd_bit hx) hf
  obtain ⟨rfl, rfl, rfl⟩ : a = A ∧ len = l.length ∧ cap = c := by
    have := (List.cons.inj (show [Value.slice a len cap] = [.slice A l.length c] from e)).1
    injection this with h1 h2 h3
    exact ⟨h1, h2, h3⟩
  have hk := k (fun n hn => by
    have := List.all_eq_true.1 hsz _ (DataW.weights_mem_each ht hd n hn)
    exact of_decide_eq_true this)
  rw [bytes36] at hk
  exact ⟨l, rfl, b, g, hk.1, hk.2⟩
end
end Go.Proofs.YtcplaafmelcndaaGreatDoor.Opg
end
section
/- The size of a node, as the reference counts it: it comes to an end, where no part is longer than may be; a small size tells that no part is great. -/
set_option linter.unusedVariables false
set_option maxRecDepth 20000
namespace Go.Proofs.YtcplaafmelcndaaGreatDoor.Siz
open Go.RowKit Go.Proofs.YtcplaafmelcndaaGreatDoor.At Go.Proofs.YtcplaafmelcndaaGreatDoor.Pr Go.Proofs.YtcplaafmelcndaaGreatDoor.Opg Go.Proofs.YtcplaafmelcndaaGreatDoorW.PrintWords
abbrev sz (k : Nat) (x : S25) (m : Int) : Option Int := broadsheetref09_Size.f k x.f0 x.f1 x.f2 x.f3 x.f4 x.f5 m
/-- Sizes up to m come to an end, and are not much greater than m. -/
def Ends (K : Nat) (x : S25) : Prop := ∀ (m : Int), 0 ≤ m → m ≤ 3000 → ∀ k, K ≤ k → ∃ t, sz k x m = some t ∧ 1 ≤ t ∧ t ≤ m + 1125899906842624 ∧ (t ≤ m → Sm x ∧ (x.f4.length : Int) + 1 ≤ m)
theorem Ends.mono {K K' : Nat} {x : S25} (h : Ends K x) (hK : K ≤ K') : Ends K' x := fun m h0 h1 k hk => h m h0 h1 k (Nat.le_trans hK hk)
theorem all_ends (l : List S25) (h : ∀ y ∈ l, ∃ K, Ends K y) : ∃ K, ∀ y ∈ l, Ends K y := by
  induction l with
  | nil => exact ⟨0, fun y hy => by cases hy⟩
  | cons x l ih =>
    obtain ⟨K, hK⟩ := ih (fun y hy => h y (List.mem_cons_of_mem _ hy))
    obtain ⟨k0, h0⟩ := h x (List.mem_cons_self ..)
    refine ⟨max K k0, fun y hy => ?_⟩
    rcases List.mem_cons.1 hy with rfl | hy
    · exact h0.mono (by omega)
    · exact (hK y hy).mono (by omega)
theorem wr {x : Int} (h1 : -9223372036854775808 ≤ x) (h2 : x ≤ 9223372036854775807) : wrap64 x = x := by unfold wrap64; omega
theorem rd25_mem (l : List S25) (i : Nat) (h : i < l.length) : rd_T25 l (i : Int) = l[i] ∧ rd_T25 l (i : Int) ∈ l := by
  have e : rd_T25 l (i : Int) = l[i] := by unfold rd_T25; simp [List.getD, List.getElem?_eq_getElem h]
  exact ⟨e, e ▸ List.getElem_mem h⟩
theorem rd41_mem (l : List S41) (i : Nat) (h : i < l.length) : rd_T41 l (i : Int) ∈ l := by
  have e : rd_T41 l (i : Int) = l[i] := by unfold rd_T41; simp [List.getD, List.getElem?_eq_getElem h]
  exact e ▸ List.getElem_mem h
theorem kids_loop (x : S25) (K : Nat) (hl : x.f4.length ≤ 1000000000000000) (hK : ∀ y ∈ x.f4, Ends K y) (m : Int) (h0 : 0 ≤ m) (h1 : m ≤ 3000) (d : Nat) : ∀ (k i : Nat) (n : Int), i ≤ x.f4.length → x.f4.length - i = d → K + d < k → 1 ≤ n → n ≤ m + 1125899906842624 →
    ∃ t, broadsheetref09_Size.l1 k m n (i : Int) x.f0 x.f1 x.f2 x.f3 x.f4 x.f5 = some t ∧ 1 ≤ t ∧ t ≤ m + 1125899906842624 ∧ (t ≤ m → n + d ≤ t ∧ ∀ y ∈ x.f4.drop i, Sm y) := by
  induction d with
  | zero =>
    intro k i n hi hd hk hn1 hn2
    obtain ⟨k, rfl⟩ : ∃ q, k = q + 1 := ⟨k - 1, by omega⟩
    simp only [broadsheetref09_Size.l1]
    rw [if_neg (by omega)]
    exact ⟨n, rfl, hn1, hn2, fun _ => ⟨by omega, fun y hy => by rw [List.drop_of_length_le (by omega)] at hy; cases hy⟩⟩
  | succ d ih =>
    intro k i n hi hd hk hn1 hn2
    obtain ⟨k, rfl⟩ : ∃ q, k = q + 1 := ⟨k - 1, by omega⟩
    simp only [broadsheetref09_Size.l1]
    rw [if_pos (by omega)]
    by_cases hnm : n ≤ m
    · rw [if_pos hnm, if_pos (by omega)]
      obtain ⟨t, ht, ht1, ht2, ht3⟩ := hK _ (rd25_mem x.f4 i (by omega)).2 (m - n) (by omega) (by omega) k (by omega)
      rw [wr (by omega) (by omega)]
      unfold sz at ht
      rw [ht]
      simp only [Option.bind_some]
      rw [wr (by omega) (by omega), wr (by omega) (by omega)]
      obtain ⟨r, hr, hr1, hr2, hr3⟩ := ih k (i + 1) (n + t) (by omega) (by omega) (by omega) (by omega) (by omega)
      refine ⟨r, hr, hr1, hr2, fun hrm => ?_⟩
      obtain ⟨q1, q2⟩ := hr3 hrm
      refine ⟨by omega, fun y hy => ?_⟩
      rw [List.drop_eq_getElem_cons (by omega)] at hy
      rcases List.mem_cons.1 hy with rfl | hy
      · have := (ht3 (by omega)).1
        rwa [(rd25_mem x.f4 i (by omega)).1] at this
      · exact q2 y hy
    · rw [if_neg hnm]
      exact ⟨n, rfl, hn1, hn2, fun h => absurd h hnm⟩
theorem attrs_loop (x : S25) (K : Nat) (hl : x.f4.length ≤ 1000000000000000) (hl3 : x.f3.length ≤ 1000000000000000) (ha : ∀ a ∈ x.f3, Good41 a) (hK : ∀ y ∈ x.f4, Ends K y) (m : Int) (h0 : 0 ≤ m) (h1 : m ≤ 3000) (d : Nat) : ∀ (k i : Nat) (n : Int), i ≤ x.f3.length → x.f3.length - i = d → K + x.f4.length + 2 + d < k → 1 ≤ n → n ≤ m + 1125899906842624 →
    ∃ t, broadsheetref09_Size.l0 k m n (i : Int) x.f0 x.f1 x.f2 x.f3 x.f4 x.f5 = some t ∧ 1 ≤ t ∧ t ≤ m + 1125899906842624 ∧ (t ≤ m → n + x.f4.length ≤ t ∧ (∀ a ∈ x.f3.drop i, a.f0.size ≤ 3000 ∧ a.f1.size ≤ 3000 ∧ a.f2.size ≤ 3000) ∧ ∀ y ∈ x.f4, Sm y) := by
  have hj : ∀ (k : Nat) (n : Int), K + x.f4.length + 1 < k → 1 ≤ n → n ≤ m + 1125899906842624 → ∃ t, broadsheetref09_Size.j1 k m n x.f0 x.f1 x.f2 x.f3 x.f4 x.f5 = some t ∧ 1 ≤ t ∧ t ≤ m + 1125899906842624 ∧ (t ≤ m → n + x.f4.length ≤ t ∧ ∀ y ∈ x.f4, Sm y) := by
    intro k n hk hn1 hn2
    obtain ⟨k, rfl⟩ : ∃ q, k = q + 1 := ⟨k - 1, by omega⟩
    simp only [broadsheetref09_Size.j1]
    exact kids_loop x K hl hK m h0 h1 x.f4.length k 0 n (by omega) (by omega) (by omega) hn1 hn2
  induction d with
  | zero =>
    intro k i n hi hd hk hn1 hn2
    obtain ⟨k, rfl⟩ : ∃ q, k = q + 1 := ⟨k - 1, by omega⟩
    simp only [broadsheetref09_Size.l0]
    rw [if_neg (by omega)]
    obtain ⟨r, hr, hr1, hr2, hr3⟩ := hj k n (by omega) hn1 hn2
    exact ⟨r, hr, hr1, hr2, fun hrm => ⟨(hr3 hrm).1, (fun a ha => by rw [List.drop_of_length_le (by omega)] at ha; cases ha), (hr3 hrm).2⟩⟩
  | succ d ih =>
    intro k i n hi hd hk hn1 hn2
    obtain ⟨k, rfl⟩ : ∃ q, k = q + 1 := ⟨k - 1, by omega⟩
    simp only [broadsheetref09_Size.l0]
    rw [if_pos (by omega)]
    by_cases hnm : n ≤ m
    · rw [if_pos hnm, if_pos (by omega)]
      obtain ⟨g0, g1, g2⟩ := ha _ (rd41_mem x.f3 i (by omega))
      unfold gs at g0 g1 g2
      rw [wr (x := n + _) (by omega) (by omega), wr (x := n + _ + _) (by omega) (by omega), wr (x := n + _ + _ + _) (by omega) (by omega), wr (x := (i : Int) + 1) (by omega) (by omega)]
      have hs0 : rd_T41 x.f3 (i : Int) = x.f3[i]'(by omega) := by unfold rd_T41; simp [List.getD, List.getElem?_eq_getElem (show i < x.f3.length by omega)]
      have hih := ih k (i + 1) (n + ((rd_T41 x.f3 (i : Int)).f0.size : Int) + ((rd_T41 x.f3 (i : Int)).f1.size : Int) + ((rd_T41 x.f3 (i : Int)).f2.size : Int)) (by omega) (by omega) (by omega) (by omega) (by omega)
      rw [show ((i + 1 : Nat) : Int) = (i : Int) + 1 by omega] at hih
      obtain ⟨r, hr, hr1, hr2, hr3⟩ := hih
      refine ⟨r, hr, hr1, hr2, fun hrm => ?_⟩
      obtain ⟨q1, q2, q3⟩ := hr3 hrm
      refine ⟨by omega, fun a ha => ?_, q3⟩
      rw [List.drop_eq_getElem_cons (by omega)] at ha
      rcases List.mem_cons.1 ha with rfl | ha
      · rw [hs0] at q1
        refine ⟨by omega, by omega, by omega⟩
      · exact q2 a ha
    · rw [if_neg hnm]
      obtain ⟨r, hr, hr1, hr2, hr3⟩ := hj k n (by omega) hn1 hn2
      exact ⟨r, hr, hr1, hr2, fun hrm => absurd (hr3 hrm).1 (by omega)⟩
theorem size_ends {x : S25} (h : Good25 x) : ∃ K, Ends K x := by
  induction h with
  | mk x g1 g2 g5 l3 l4 ha hk ih =>
    obtain ⟨K, hK⟩ := all_ends x.f4 ih
    refine ⟨K + x.f4.length + x.f3.length + 5, fun m h0 h1 k hk2 => ?_⟩
    obtain ⟨k, rfl⟩ : ∃ q, k = q + 1 := ⟨k - 1, by omega⟩
    unfold gs at g1 g2 g5
    simp only [sz, broadsheetref09_Size.f]
    rw [wr (x := 1 + _) (by omega) (by omega), wr (x := 1 + _ + _) (by omega) (by omega), wr (x := 1 + _ + _ + _) (by omega) (by omega), wr (x := 1 + _ + _ + _ + _) (by omega) (by omega)]
    obtain ⟨t, ht, ht1, ht2, ht3⟩ := attrs_loop x K (by omega) (by omega) ha hK m h0 h1 x.f3.length k 0 (1 + (x.f3.length : Int) + (x.f5.size : Int) + (x.f1.size : Int) + (x.f2.size : Int)) (by omega) (by omega) (by omega) (by omega) (by omega)
    refine ⟨t, ht, ht1, ht2, fun htm => ?_⟩
    obtain ⟨q1, q2, q3⟩ := ht3 htm
    exact ⟨Sm.mk x (by omega) (by omega) (by omega) (by omega) (by omega) q2 q3, by omega⟩
end Go.Proofs.YtcplaafmelcndaaGreatDoor.Siz
end
section
/- media.Text's methods by hand: Token, Take, Skip. -/
set_option linter.unusedVariables false
set_option linter.unusedSimpArgs false
set_option maxRecDepth 20000
namespace Go.Proofs.YtcplaafmelcndaaGreatDoor.At
open Go.RowKit Go.Lib Go.Shelf
/-- A text out of its bytes. -/
def bs (l : List UInt8) : ByteArray := ⟨l.toArray⟩
theorem bs_size (l : List UInt8) : (bs l).size = l.length := by show l.toArray.size = _; simp
theorem bs_list (l : List UInt8) : (bs l).data.toList = l := by show l.toArray.toList = _; simp
theorem bs_toList (l : List UInt8) : (bs l).toList = l := by rw [ByteArray.toList_eq, bs_list]
theorem bs_of (s : ByteArray) : s = bs s.data.toList := by unfold bs; simp
theorem bs_extract (l : List UInt8) (i j : Nat) : (bs l).extract i j = bs ((l.take j).drop i) := by
  unfold bs
  apply ByteArray.ext
  rw [ByteArray.data_extract]
  apply Array.ext'
  simp [List.extract_eq_take_drop, List.drop_take]
theorem bs_get (l : List UInt8) (k : Nat) (h : k < l.length) (h' : k < (bs l).size) : (bs l)[k]'h' = l[k] := by
  show l.toArray[k]'(by simpa using h) = _
  exact List.getElem_toArray _
theorem grown_set (W : World) (b : Nat) (v : Value) : W.grownBy (W.setCell ⟨b, 0, none⟩ v) (some b) :=
  ⟨rfl, rfl, rfl, by simp [World.setCell], fun k _ hk => Below.heap_setCell _ _ _ _ (fun e => hk (by rw [e]))⟩
theorem grown_of_below {w w' : World} (h : Below w.heap.size w w') (row : Option Nat) : w.grownBy w' row := by
  obtain ⟨h1, h2, h3, h4, h5⟩ := h
  exact ⟨h1, h2, h3, h4, fun k hk _ => h5 k hk⟩
/-- What a method of media.Text leaves. -/
def MPost (b : Nat) (w : World) (v : Value) (l : List UInt8) (e : Ending) (w' : World) : Prop :=
  e = .returned v ∧ w.grownBy w' (some b) ∧ w'.heap[b]? = some (.cells #[.string (bs l)] 104 (0, 0))
def signsL : List UInt8 := [48, 49, 50, 51, 52, 53, 54, 55, 56, 57, 65, 66, 67, 68, 69, 70, 71, 72, 73, 74, 75, 76, 77, 78, 79, 80, 81, 82, 83, 84, 85, 86, 87, 88, 89, 90, 97, 98, 99, 100, 101, 102, 103, 104, 105, 106, 107, 108, 109, 110, 111, 112, 113, 114, 115, 116, 117, 118, 119, 120, 121, 122, 33, 35, 36, 37, 38, 39, 42, 43, 45, 46, 94, 95, 96, 124, 126]
def tokB (c : UInt8) : Bool := decide (0 ≤ Lib.indexByte signsL c)
theorem tw_at (p : UInt8 → Bool) : ∀ (l : List UInt8) (k : Nat), k < (l.takeWhile p).length → ∃ h : k < l.length, p l[k] = true
  | [], k, h => by simp at h
  | c :: l, k, h => by
    rw [List.takeWhile_cons] at h
    split at h
    · next hc =>
      cases k with
      | zero => exact ⟨by simp, hc⟩
      | succ k =>
        obtain ⟨h1, h2⟩ := tw_at p l k (by simpa using h)
        exact ⟨by simpa using h1, by simpa using h2⟩
    · simp at h
theorem tw_end (p : UInt8 → Bool) : ∀ (l : List UInt8) (h : (l.takeWhile p).length < l.length), p (l[(l.takeWhile p).length]'h) = false
  | [], h => by simp at h
  | c :: l, h => by
    by_cases hc : p c = true
    · have e : (c :: l).takeWhile p = c :: l.takeWhile p := by rw [List.takeWhile_cons, if_pos hc]
      have h' : (l.takeWhile p).length < l.length := by rw [e] at h; simpa using h
      have := tw_end p l h'
      simp only [e, List.length_cons, List.getElem_cons_succ]
      exact this
    · have e : (c :: l).takeWhile p = [] := by rw [List.takeWhile_cons, if_neg hc]
      simp only [e, List.length_nil, List.getElem_cons_zero]
      simpa using hc
theorem tw_le (p : UInt8 → Bool) (l : List UInt8) : (l.takeWhile p).length ≤ l.length := by
  have := List.takeWhile_append_dropWhile (p := p) (l := l)
  have h2 := congrArg List.length this
  rw [List.length_append] at h2
  omega
theorem tw_take (p : UInt8 → Bool) (l : List UInt8) : l.take (l.takeWhile p).length = l.takeWhile p := by
  conv => lhs; rw [← List.takeWhile_append_dropWhile (p := p) (l := l)]
  have : ((l.takeWhile p ++ l.dropWhile p).takeWhile p).length = (l.takeWhile p).length := by rw [List.takeWhile_append_dropWhile]
  rw [List.takeWhile_append_dropWhile]
  have h3 : l.take (l.takeWhile p).length = (l.takeWhile p ++ l.dropWhile p).take (l.takeWhile p).length := by rw [List.takeWhile_append_dropWhile]
  rw [h3, List.take_left]
theorem tw_drop (p : UInt8 → Bool) (l : List UInt8) : l.drop (l.takeWhile p).length = l.dropWhile p := by
  have h3 : l.drop (l.takeWhile p).length = (l.takeWhile p ++ l.dropWhile p).drop (l.takeWhile p).length := by rw [List.takeWhile_append_dropWhile]
  rw [h3, List.drop_left]
set_option maxHeartbeats 1000000 in
theorem token_any (b : Nat) (l : List UInt8) (w : World) (hb : w.heap[b]? = some (.cells #[.string (bs l)] 104 (0, 0))) (hl : l.length ≤ 1000000000000) :
    Calls Tryz.prog 79 #[.pointer (some ⟨b, 0, none⟩)] w (MPost b w (.string (bs (l.takeWhile tokB))) (l.dropWhile tokB)) := by
  have hc := cell_of_one hb
  have hf := free_of_one hb
  have hsz := bs_size l
  obtain ⟨n, hn⟩ : ∃ n, (l.takeWhile tokB).length = n := ⟨_, rfl⟩
  have hle := tw_le tokB l
  have hat := tw_at tokB l
  have hend := tw_end tokB l
  have e1 : (bs l).extract 0 n = bs (l.takeWhile tokB) := by rw [bs_extract, ← hn, tw_take, List.drop_zero]
  have e2 : (bs l).extract n (bs l).size = bs (l.dropWhile tokB) := by rw [bs_extract, bs_size, List.take_length, ← hn, tw_drop]
  rw [hn] at hle hat
  have hend2 : ∀ h : n < l.length, tokB l[n] = false := by intro h; subst hn; exact hend h
  have HB := Lib.hid hb
  have HSZ := Lib.hid hsz
  have HL := Lib.hid hl
  have HLE := Lib.hid hle
  have HAT := Lib.hid hat
  have HEND := Lib.hid hend2
  have HE1 := Lib.hid e1
  have HE2 := Lib.hid e2
  clear hb hsz hl hle hat hend hend2 e1 e2 hn
  go_enter Tryz.func79, Tryz.ntmps79
  go_wp2_with fail
  go_loop [3] (fun s3 => ∃ k : Nat, s3 = .int .i64 (k : Int) ∧ k ≤ n) (fun s3 => n - (RowKit.intOf s3).toNat)
  case atStart => exact ⟨0, rfl, Nat.zero_le _⟩
  case round =>
    obtain ⟨k, rfl, hk⟩ := hrel
    by_cases hlt : k < n
    · obtain ⟨h1, h2⟩ := HAT.out k hlt
      have C := fun W => Tryz.strings_IndexByte (bs signsL) l[k].toNat W
      have u8b : ((l[k].toNat : Int).toNat).toUInt8 = l[k] := by simp
      rw [u8b, bs_list] at C
      have hq : 0 ≤ Lib.indexByte signsL l[k] := of_decide_eq_true h2
      obtain ⟨c, hcl⟩ : ∃ c, c = l[k] := ⟨_, rfl⟩
      have hg : ∀ h', (bs l)[k]'h' = c := fun h' => by rw [hcl]; exact bs_get l k h1 h'
      rw [← hcl] at C hq h2 u8b
      generalize Lib.indexByte signsL c = q at C hq
      have p1 : decide ((k : Int) < ((bs l).size : Int)) = true := decide_eq_true (by rw [HSZ.out]; omega)
      have p2 := eq_true (show (k : Int) < ((bs l).size : Int) by rw [HSZ.out]; omega)
      have p3 := eq_true (show (0 : Int) ≤ (k : Int) by omega)
      have p4 : decide (q ≥ 0) = true := decide_eq_true hq
      have p5 : decide (0 ≤ q) = true := decide_eq_true hq
      have HK := Lib.hid hlt
      have HC := Lib.hid C
      clear C u8b h2 hlt hk hq hcl
      go_wp2_with (go_at_call 108; refine (HC.out _).mono ?_)
      go_round
      case rel => exact ⟨k + 1, by rw [Go.IntWalk.wrap64_in _ (by have := HK.out; have := HLE.out; have := HL.out; omega)]; rfl, by have := HK.out; omega⟩
      case measure => rw [Go.IntWalk.wrap64_in _ (by have := HK.out; have := HLE.out; have := HL.out; omega)]; show n - ((k : Int) + 1).toNat < n - (k : Int).toNat; have := HK.out; omega
    · obtain rfl : k = n := by omega
      clear hk hlt
      have q1 := eq_true (show ((k : Int)) ≤ ((bs l).size : Int) by rw [HSZ.out]; have := HLE.out; omega)
      have q2 := eq_true (show (0 : Int) ≤ (k : Int) by omega)
      by_cases hkl : k < l.length
      · have C := fun W => Tryz.strings_IndexByte (bs signsL) l[k].toNat W
        have u8b : ((l[k].toNat : Int).toNat).toUInt8 = l[k] := by simp
        rw [u8b, bs_list] at C
        have h2 := HEND.out hkl
        have hq : ¬ 0 ≤ Lib.indexByte signsL l[k] := of_decide_eq_false h2
        obtain ⟨c, hcl⟩ : ∃ c, c = l[k] := ⟨_, rfl⟩
        have hg : ∀ h', (bs l)[k]'h' = c := fun h' => by rw [hcl]; exact bs_get l k hkl h'
        rw [← hcl] at C hq h2 u8b
        generalize Lib.indexByte signsL c = q at C hq
        have p1 : decide ((k : Int) < ((bs l).size : Int)) = true := decide_eq_true (by rw [HSZ.out]; omega)
        have p2 := eq_true (show (k : Int) < ((bs l).size : Int) by rw [HSZ.out]; omega)
        have p4 : decide (q ≥ 0) = false := decide_eq_false hq
        have p5 : decide (0 ≤ q) = false := decide_eq_false hq
        have HC := Lib.hid C
        clear C u8b h2 hq hcl
        go_wp2_with (go_at_call 108; refine (HC.out _).mono ?_)
        go_ret
        rw [HE1.out, HE2.out]
        exact ⟨rfl, grown_set _ _ _, one_setCell HB.out⟩
      · have p1 : decide ((k : Int) < ((bs l).size : Int)) = false := decide_eq_false (by rw [HSZ.out]; omega)
        have p2 : decide (k < (bs l).size) = false := decide_eq_false (by rw [HSZ.out]; omega)
        clear hkl
        go_wp2_with fail
        go_ret
        rw [HE1.out, HE2.out]
        exact ⟨rfl, grown_set _ _ _, one_setCell HB.out⟩
theorem take_any (b : Nat) (l s : List UInt8) (w : World) (hb : w.heap[b]? = some (.cells #[.string (bs l)] 104 (0, 0))) :
    Calls Tryz.prog 80 #[.pointer (some ⟨b, 0, none⟩), .string (bs s)] w (MPost b w (.bool (Lib.hasPrefix l s)) (Lib.trimPrefix l s)) := by
  have hc := cell_of_one hb
  have hf := free_of_one hb
  have C := fun W => Tryz.strings_CutPrefix (bs l) (bs s) W
  rw [bs_list, bs_list] at C
  have HC := Lib.hid C
  have HB := Lib.hid hb
  clear C hb
  go_enter Tryz.func80, Tryz.ntmps80
  go_wp2_with (go_at_call 109; refine (HC.out _).mono ?_)
  rintro e w4 ⟨rfl, rfl⟩
  go_wp2_with fail
  go_ret
  exact ⟨rfl, grown_set _ _ _, one_setCell HB.out⟩
theorem trimLeft_any (l : List UInt8) (w : World) : Calls Tryz.prog 107 #[.string (bs l), .string ⟨#[32, 9]⟩] w fun e w' => e = .returned (.string (bs (Lib.trimLeftS l [32, 9]))) ∧ Below w.heap.size w w' := by
  have h := Any.strings_TrimLeft_laid Tryz.lays161 (by kernel_rfl) (bs l) ⟨#[32, 9]⟩ w (by decide) (hasc ⟨#[32, 9]⟩ (by decide))
  rw [bs_list] at h
  exact h
def skL (l : List UInt8) : List UInt8 := l.dropWhile (fun c => [32, 9].contains c)
theorem skip_any (b : Nat) (l : List UInt8) (w : World) (hb : w.heap[b]? = some (.cells #[.string (bs l)] 104 (0, 0))) :
    Calls Tryz.prog 78 #[.pointer (some ⟨b, 0, none⟩)] w (MPost b w (.tuple #[]) (skL l)) := by
  have hc := cell_of_one hb
  have hlt := lt_of_block hb
  have C := fun W => trimLeft_any l W
  have HC := Lib.hid C
  have HB := Lib.hid hb
  clear C hb
  go_enter Tryz.func78, Tryz.ntmps78
  go_wp2_with (go_at_call 107; refine (HC.out _).mono ?_)
  rintro e w4 ⟨rfl, hb4⟩
  have h4 := (hb4.block b hlt).trans HB.out
  have hc4 := cell_of_one h4
  have hf4 := free_of_one h4
  have H4 := Lib.hid h4
  have HB4 := Lib.hid hb4
  clear h4 hb4 hlt
  go_wp2_with fail
  go_end0
  exact ⟨rfl, (grown_of_below HB4.out _).trans (grown_set _ _ _), one_setCell H4.out⟩
end Go.Proofs.YtcplaafmelcndaaGreatDoor.At
end
section
/- media.Text's methods by hand: Quoted, Value. (Written by genmdq.py.) -/
set_option linter.unusedVariables false
set_option linter.unusedSimpArgs false
set_option maxRecDepth 20000
namespace Go.Proofs.YtcplaafmelcndaaGreatDoor.At
open Go.RowKit Go.Lib Go.Shelf Go.Proofs.YtcplaafmelcndaaGreatDoor.Bld
/-- A byte that may not be quoted. -/
def badB (c : UInt8) : Bool := (decide (c.toNat < 32) && decide (c.toNat ≠ 9)) || decide (c.toNat = 127)
/-- Behind a quote: what is quoted, and what stands behind it. -/
def quo : List UInt8 → List UInt8 → Option (List UInt8 × List UInt8)
  | [], _ => none
  | c :: l, acc =>
    if c.toNat = 34 then some (acc, l)
    else if c.toNat = 92 then
      match l with
      | [] => none
      | d :: l' => if badB d = true then none else quo l' (acc ++ [d])
    else if badB c = true then none else quo l (acc ++ [c])
def quoV (l : List UInt8) : List UInt8 × Bool × List UInt8 := match quo l [] with
  | some (a, r) => (a, true, r)
  | none => ([], false, l)
theorem quo_nil (acc : List UInt8) : quo [] acc = none := by unfold quo; rfl
theorem quo_end (l acc : List UInt8) (i : Nat) (h : i < l.length) (hc : (l[i]).toNat = 34) : quo (l.drop i) acc = some (acc, l.drop (i + 1)) := by
  rw [List.drop_eq_getElem_cons h]
  unfold quo
  rw [if_pos hc]
theorem quo_esc0 (l acc : List UInt8) (i : Nat) (h : i < l.length) (hc : (l[i]).toNat = 92) (hn : l.length = i + 1) : quo (l.drop i) acc = none := by
  rw [List.drop_eq_getElem_cons h, List.drop_of_length_le (by omega)]
  unfold quo
  rw [if_neg (by omega), if_pos hc]
theorem quo_esc (l acc : List UInt8) (i : Nat) (h : i < l.length) (hc : (l[i]).toNat = 92) (h1 : i + 1 < l.length) : quo (l.drop i) acc = if badB l[i + 1] = true then none else quo (l.drop (i + 2)) (acc ++ [l[i + 1]]) := by
  rw [List.drop_eq_getElem_cons h, List.drop_eq_getElem_cons h1]
  conv => lhs; unfold quo
  rw [if_neg (by omega), if_pos hc]
theorem quo_one (l acc : List UInt8) (i : Nat) (h : i < l.length) (hc : ¬ (l[i]).toNat = 34) (hd : ¬ (l[i]).toNat = 92) : quo (l.drop i) acc = if badB l[i] = true then none else quo (l.drop (i + 1)) (acc ++ [l[i]]) := by
  rw [List.drop_eq_getElem_cons h]
  conv => lhs; unfold quo
  rw [if_neg hc, if_neg hd]
theorem grown_below {a c d : World} {row : Option Nat} (h : a.grownBy c row) (k : Below a.heap.size c d) : a.grownBy d row :=
  ⟨k.os.trans h.os, k.tape.trans h.tape, k.output.trans h.output, Nat.le_trans h.size k.size, fun j hj hne => (k.block j hj).trans (h.block j hj hne)⟩
/-- A builder stays a builder while a block that is not its own is written. -/
theorem builder_keep {T e : TypeId} {B b : Nat} {bsv : List Value} {w w' : World} (h : Lib.IsBuilderF T e B b bsv w) (hk : ∀ k, B ≤ k → w'.heap[k]? = w.heap[k]?) : Lib.IsBuilderF T e B b bsv w' := by
  have go : ∀ p, Lib.BuilderAtF T e B b p bsv w → Lib.BuilderAtF T e B b p bsv w' := by
    rintro p ⟨hB, v, hb, hown, hne⟩
    refine ⟨hB, v, (hk b hB).trans hb, ⟨hown.1, ?_⟩, hne⟩
    rcases hown.2 with hn | ⟨g, cap, cur, fz, hv, hbg, hg, rest⟩
    · exact .inl hn
    · exact .inr ⟨g, cap, cur, fz, hv, hbg, (hk g hbg).trans hg, rest⟩
  exact h.elim (fun x => .inl (go _ x)) (fun x => .inr (go _ x))
theorem bad_ways {x y z : Bool} (h : ((x && y) || z) = true) : (x = true ∧ y = true) ∨ (x = true ∧ y = false ∧ z = true) ∨ (x = false ∧ z = true) := by
  cases x <;> cases y <;> cases z <;> simp at h ⊢
theorem good_ways {x y z : Bool} (h : ((x && y) || z) = false) : (x = true ∧ y = false ∧ z = false) ∨ (x = false ∧ z = false) := by
  cases x <;> cases y <;> cases z <;> simp at h ⊢
theorem bad_parts (c : UInt8) : ∃ x y z, decide ((c.toNat : Int) < 32) = x ∧ ((c.toNat : Int) != 9) = y ∧ ((c.toNat : Int) == 127) = z ∧ ((c.toNat : Int) == 9) = !y ∧ badB c = ((x && y) || z) := by
  refine ⟨_, _, _, rfl, rfl, rfl, ?_, ?_⟩
  · simp [bne]
  · unfold badB
    have h1 : decide ((c.toNat : Int) < 32) = decide (c.toNat < 32) := by apply decide_eq_decide.2; omega
    have h2 : ((c.toNat : Int) != 9) = decide (c.toNat ≠ 9) := by
      rw [Bool.eq_iff_iff]; simp; omega
    have h3 : ((c.toNat : Int) == 127) = decide (c.toNat = 127) := by
      rw [Bool.eq_iff_iff]; simp; omega
    rw [h1, h2, h3]
theorem byteCells_snoc1 (acc : List UInt8) (c : UInt8) : Lib.byteCells (acc ++ [c]) = Lib.byteCells acc ++ [.int .u8 c.toNat] := by rw [Lib.byteCells_append]; rfl
set_option maxHeartbeats 4000000 in
theorem quoted_any (b : Nat) (l : List UInt8) (w : World) (hb : w.heap[b]? = some (.cells #[.string (bs l)] 104 (0, 0))) (hl : l.length ≤ 1000000000000) :
    Calls Tryz.prog 139 #[.pointer (some ⟨b, 0, none⟩)] w (MPost b w (.tuple #[.string (bs (quoV l).1), .bool (quoV l).2.1]) (quoV l).2.2) := by
  obtain ⟨ANS, hA⟩ : ∃ a, quo l [] = a := ⟨_, rfl⟩
  have hP1 : ∀ a r, ANS = some (a, r) → quoV l = (a, true, r) := fun a r h => by unfold quoV; rw [hA, h]
  have hP2 : ANS = none → quoV l = ([], false, l) := fun h => by unfold quoV; rw [hA, h]
  generalize quoV l = QV at hP1 hP2
  have hlt := lt_of_block hb
  have hsz := bs_size l
  have HA := Lib.hid hA
  have HP1 := Lib.hid hP1
  have HP2 := Lib.hid hP2
  have HB := Lib.hid hb
  have HSZ := Lib.hid hsz
  have HL := Lib.hid hl
  have HLT := Lib.hid hlt
  clear hA hP1 hP2 hb hsz hl hlt
  go_enter Tryz.func139, Tryz.ntmps139
  go_wp2_with fail
  go_loopg [5] (l.length + 1) (fun kx s5 wr => ∃ (i : Nat) (acc : List UInt8), s5 = .int .i64 (i : Int) ∧ i ≤ l.length ∧ l.length - i < kx ∧ acc.length ≤ i ∧ Hid (quo (l.drop i) acc = ANS) ∧ Hid (Below w.heap.size w wr ∧ Lib.IsBuilderF 57 5 w.heap.size w.heap.size (Lib.byteCells acc) wr))
  case atStart =>
    refine ⟨0, [], rfl, by omega, by omega, by simp, HA.out, ⟨(Below.refl _ _).alloc (Nat.le_refl _) _, ?_⟩⟩
    exact Lib.IsBuilderF.of (Lib.fresh_isBuilder 57 5 w)
  case round =>
    obtain ⟨i, acc, rfl, hi, hkx, hacc, HQ, HW⟩ := hrel
    have hbr := (HW.out.1.block b HLT.out).trans HB.out
    have hc := cell_of_one hbr
    have hf := free_of_one hbr
    have HBR := Lib.hid hbr
    clear hbr
    by_cases hlt : i < l.length
    · have p1 : decide ((i : Int) < ((bs l).size : Int)) = true := decide_eq_true (by rw [HSZ.out]; omega)
      have p2 := eq_true (show (i : Int) < ((bs l).size : Int) by rw [HSZ.out]; omega)
      have p3 : decide (i < (bs l).size) = true := decide_eq_true (by rw [HSZ.out]; omega)
      have p4 := eq_true (show i < (bs l).size by rw [HSZ.out]; omega)
      have p5 := eq_true (show (0 : Int) ≤ (i : Int) by omega)
      have q1 : wrap64 ((i : Int) + 1) = (i : Int) + 1 := Go.IntWalk.wrap64_in _ (by have := HL.out; omega)
      have q2 := eq_true (show (0 : Int) ≤ (i : Int) + 1 by omega)
      have q3 := eq_true (show (i : Int) + 1 ≤ ((bs l).size : Int) by rw [HSZ.out]; omega)
      obtain ⟨c, hcl⟩ : ∃ c, c = l[i] := ⟨_, rfl⟩
      have hg : ∀ h', (bs l)[i]'h' = c := fun h' => by rw [hcl]; exact bs_get l i hlt h'
      have hE := quo_end l acc i hlt
      have hE0 := quo_esc0 l acc i hlt
      have hEE := quo_esc l acc i hlt
      have hO := quo_one l acc i hlt
      rw [← hcl] at hE hE0 hEE hO
      have HE := Lib.hid hE
      have HE0 := Lib.hid hE0
      have HEE := Lib.hid hEE
      have HO := Lib.hid hO
      have HI := Lib.hid (And.intro hlt (And.intro hkx hacc))
      have hbx := HW.out.1.size
      have HBX := Lib.hid hbx
      clear hE hE0 hEE hO hcl hi hkx hacc hlt hbx
      by_cases h34 : (c.toNat : Int) = 34
      · have hans := HQ.out
        rw [HE.out (by omega)] at hans
        have hx : (bs l).extract (i + 1) (bs l).size = bs (l.drop (i + 1)) := by rw [bs_extract, bs_size, List.take_length]
        have hr := HP1.out _ _ hans.symm
        have hkb : Lib.IsBuilderF 57 5 w.heap.size w.heap.size (Lib.byteCells acc) (wr.setCell ⟨b, 0, none⟩ (.string (bs (l.drop (i + 1))))) := builder_keep HW.out.2 (fun k hk => Below.heap_setCell _ _ _ _ (by show k ≠ b; have := HLT.out; omega))
        have HX := Lib.hid hx
        have HR := Lib.hid hr
        have HKB := Lib.hid hkb
        have t1 : ((c.toNat : Int) == 34) = true := by simp [h34]
        have tt : ((i : Int) + 1).toNat = i + 1 := by omega
        clear hans hx hr hkb h34
        go_wp2_with (first | (go_at_call 33; rw [HX.out]; refine (Tryz.Builder_String_any_k w.heap.size w.heap.size acc _ HKB.out (by simp; exact HBX.out)).mono ?_))
        rintro e w2 ⟨rfl, -, hb2, -⟩
        have HB2 := Lib.hid hb2
        clear hb2
        go_wp2_with fail
        go_ret2
        rw [HR.out]
        refine ⟨rfl, ?_, ?_⟩
        · exact grown_below ((grown_of_below HW.out.1 _).trans (grown_set _ _ _)) HB2.out
        · exact (HB2.out.block b HLT.out).trans (one_setCell HBR.out)
      · have t1 : ((c.toNat : Int) == 34) = false := by simp [h34]
        have n34 : ¬ c.toNat = 34 := by omega
        have N34 := Lib.hid n34
        clear h34 n34
        by_cases h92 : (c.toNat : Int) = 92
        · have n92 : c.toNat = 92 := by omega
          have t2 : ((c.toNat : Int) == 92) = true := by simp [h92]
          have N92 := Lib.hid n92
          clear h92 n92
          by_cases hend : l.length = i + 1
          · have hans := HQ.out
            rw [HE0.out N92.out hend] at hans
            have hr := HP2.out hans.symm
            have HR := Lib.hid hr
            have t3 : ((i : Int) + 1 == ((bs l).size : Int)) = true := by rw [HSZ.out]; simp; omega
            clear hans hr hend
            go_wp2_with fail
            go_ret2
            rw [HR.out]
            exact ⟨rfl, grown_of_below HW.out.1 _, HBR.out⟩
          · have t3 : ((i : Int) + 1 == ((bs l).size : Int)) = false := by rw [HSZ.out]; simp; omega
            have hlt1 : i + 1 < l.length := by have := HI.out.1; omega
            have r2 := eq_true (show (i : Int) + 1 < ((bs l).size : Int) by rw [HSZ.out]; omega)
            have r3 : decide ((i : Int) + 1 < ((bs l).size : Int)) = true := decide_eq_true (by rw [HSZ.out]; omega)
            have tn : ((i : Int) + 1).toNat = i + 1 := by omega
            have q4 : wrap64 ((i : Int) + 1 + 1) = (i : Int) + 1 + 1 := Go.IntWalk.wrap64_in _ (by have := HL.out; omega)
            obtain ⟨d, hdl⟩ : ∃ d, d = l[i + 1] := ⟨_, rfl⟩
            have hgd : ∀ h', (bs l)[i + 1]'h' = d := fun h' => by rw [hdl]; exact bs_get l (i + 1) hlt1 h'
            have hans := HQ.out
            rw [HEE.out N92.out hlt1, ← hdl] at hans
            have HAN := Lib.hid hans
            have H1 := Lib.hid hlt1
            clear hans hdl hlt1 hend
            obtain ⟨x, y, z, bx, by_, bz, by2, bv⟩ := bad_parts d
            rw [bv] at HAN
            clear bv
            cases hbad : ((x && y) || z)
            · have hs2 : quo (l.drop (i + 2)) (acc ++ [d]) = ANS := by have := HAN.out; rwa [if_neg (by rw [hbad]; decide)] at this
              have HS2 := Lib.hid hs2
              have hw := good_ways hbad
              clear hs2 hbad
              rcases hw with ⟨rfl, rfl, rfl⟩ | ⟨rfl, rfl⟩
              all_goals
                (try simp only [Bool.not_false, Bool.not_true] at by2)
                go_wp2_with (first | (go_at_call 160; refine (writeByte w.heap.size w.heap.size _ d.toNat _ HW.out.2 (by rw [Lib.byteCells_length]; have := HI.out.2.2; have := HL.out; have := HI.out.1; omega) HBX.out).mono ?_))
                rintro e w2 ⟨rfl, h2, hb2, -⟩
                have HB2 := Lib.hid hb2
                have HR2 := Lib.hid h2
                clear h2 hb2
                go_wp2_with fail
                go_roundg (l.length - (i + 2) + 1)
                case measure => have := HI.out; have := H1.out; omega
                case rel => exact ⟨i + 2, acc ++ [d], by rw [Go.IntWalk.wrap64_in _ (by have := H1.out; have := HL.out; omega)]; rfl, by have := H1.out; omega, by have := H1.out; omega, by have := HI.out.2.2; simp; omega, HS2.out, ⟨HW.out.1.trans HB2.out, by rw [byteCells_snoc1]; exact .inr HR2.out⟩⟩
            · have hans : ANS = none := by have := HAN.out; rw [if_pos hbad] at this; exact this.symm
              have hr := HP2.out hans
              have HR := Lib.hid hr
              have hw := bad_ways hbad
              clear hans hr hbad
              rcases hw with ⟨rfl, rfl⟩ | ⟨rfl, rfl, rfl⟩ | ⟨rfl, rfl⟩
              all_goals
                (try simp only [Bool.not_false, Bool.not_true] at by2)
                go_wp2_with fail
                go_ret2
                rw [HR.out]
                exact ⟨rfl, grown_of_below HW.out.1 _, HBR.out⟩
        · have n92 : ¬ c.toNat = 92 := by omega
          have t2 : ((c.toNat : Int) == 92) = false := by simp [h92]
          have hans := HQ.out
          rw [HO.out N34.out n92] at hans
          have HAN := Lib.hid hans
          have H1 := Lib.hid HI.out.1
          clear hans h92 n92
          obtain ⟨x, y, z, bx, by_, bz, by2, bv⟩ := bad_parts c
          rw [bv] at HAN
          clear bv
          cases hbad : ((x && y) || z)
          · have hs2 : quo (l.drop (i + 1)) (acc ++ [c]) = ANS := by have := HAN.out; rwa [if_neg (by rw [hbad]; decide)] at this
            have HS2 := Lib.hid hs2
            have hw := good_ways hbad
            clear hs2 hbad
            rcases hw with ⟨rfl, rfl, rfl⟩ | ⟨rfl, rfl⟩
            all_goals
              (try simp only [Bool.not_false, Bool.not_true] at by2)
              go_wp2_with (first | (go_at_call 160; refine (writeByte w.heap.size w.heap.size _ c.toNat _ HW.out.2 (by rw [Lib.byteCells_length]; have := HI.out.2.2; have := HL.out; have := HI.out.1; omega) HBX.out).mono ?_))
              rintro e w2 ⟨rfl, h2, hb2, -⟩
              have HB2 := Lib.hid hb2
              have HR2 := Lib.hid h2
              clear h2 hb2
              go_wp2_with fail
              go_roundg (l.length - (i + 1) + 1)
              case measure => have := HI.out; have := H1.out; omega
              case rel => exact ⟨i + 1, acc ++ [c], by rw [Go.IntWalk.wrap64_in _ (by have := H1.out; have := HL.out; omega)]; rfl, by have := H1.out; omega, by have := H1.out; omega, by have := HI.out.2.2; simp; omega, HS2.out, ⟨HW.out.1.trans HB2.out, by rw [byteCells_snoc1]; exact .inr HR2.out⟩⟩
          · have hans : ANS = none := by have := HAN.out; rw [if_pos hbad] at this; exact this.symm
            have hr := HP2.out hans
            have HR := Lib.hid hr
            have hw := bad_ways hbad
            clear hans hr hbad
            rcases hw with ⟨rfl, rfl⟩ | ⟨rfl, rfl, rfl⟩ | ⟨rfl, rfl⟩
            all_goals
              (try simp only [Bool.not_false, Bool.not_true] at by2)
              go_wp2_with fail
              go_ret2
              rw [HR.out]
              exact ⟨rfl, grown_of_below HW.out.1 _, HBR.out⟩
    · have p1 : decide ((i : Int) < ((bs l).size : Int)) = false := decide_eq_false (by rw [HSZ.out]; omega)
      have p2 : decide (i < (bs l).size) = false := decide_eq_false (by rw [HSZ.out]; omega)
      have hans := HQ.out
      rw [List.drop_of_length_le (by omega), quo_nil] at hans
      have hr := HP2.out hans.symm
      have HR := Lib.hid hr
      clear hans hr hlt hi hkx hacc
      go_wp2_with fail
      go_ret2
      rw [HR.out]
      exact ⟨rfl, grown_of_below HW.out.1 _, HBR.out⟩
/-- A token, or a quoted text; what it is, whether there is one, what stands behind it. -/
def valV (l : List UInt8) : List UInt8 × Bool × List UInt8 :=
  if Lib.hasPrefix l [34] = true then quoV (Lib.trimPrefix l [34]) else (l.takeWhile tokB, !(l.takeWhile tokB).isEmpty, l.dropWhile tokB)
theorem trimPrefix_no {l s : List UInt8} (h : Lib.hasPrefix l s = false) : Lib.trimPrefix l s = l := by
  unfold Lib.trimPrefix
  rw [h]; rfl
theorem trimPrefix_le (l s : List UInt8) : (Lib.trimPrefix l s).length ≤ l.length := by
  unfold Lib.trimPrefix
  split
  · simp
  · exact Nat.le_refl _
theorem value_any (b : Nat) (l : List UInt8) (w : World) (hb : w.heap[b]? = some (.cells #[.string (bs l)] 104 (0, 0))) (hl : l.length ≤ 1000000000000) :
    Calls Tryz.prog 110 #[.pointer (some ⟨b, 0, none⟩)] w (MPost b w (.tuple #[.string (bs (valV l).1), .bool (valV l).2.1]) (valV l).2.2) := by
  have C := take_any b l [34] w hb
  have hlt := lt_of_block hb
  cases hp : Lib.hasPrefix l [34]
  · have hv : valV l = (l.takeWhile tokB, !(l.takeWhile tokB).isEmpty, l.dropWhile tokB) := by unfold valV; rw [if_neg (by rw [hp]; decide)]
    rw [hp, trimPrefix_no hp] at C
    rw [hv]
    have C2 := fun w2 h => token_any b l w2 h hl
    have hn : ((bs (l.takeWhile tokB)).toList = []) = (l.takeWhile tokB = []) := by rw [bs_toList]
    generalize l.takeWhile tokB = tk at C2 hn
    generalize l.dropWhile tokB = dr at C2
    have HC := Lib.hid C
    have HC2 := Lib.hid C2
    have HN := Lib.hid hn
    clear C C2 hb hl hp hv hlt hn
    go_enter Tryz.func110, Tryz.ntmps110
    go_wp2_with (go_at_call 80; refine HC.out.mono ?_)
    rintro e w2 ⟨rfl, hg, hb2⟩
    have HG := Lib.hid hg
    have HB2 := Lib.hid hb2
    clear hg hb2
    go_wp2_with (go_at_call 79; refine (HC2.out _ HB2.out).mono ?_)
    rintro e w3 ⟨rfl, hg, hb2⟩
    have HG2 := Lib.hid (HG.out.trans hg)
    have HB3 := Lib.hid hb2
    clear hg hb2
    go_wp2_with fail
    all_goals go_ret2
    all_goals
      refine ⟨?_, HG2.out, HB3.out⟩
      first | rfl | (rw [bs_toList]; rfl) | (simp [bs_toList]; done)
  · have hv : valV l = quoV (Lib.trimPrefix l [34]) := by unfold valV; rw [if_pos hp]
    have hle := trimPrefix_le l [34]
    rw [hp] at C
    rw [hv]
    generalize Lib.trimPrefix l [34] = t at C hle
    have C2 := fun w2 h => quoted_any b t w2 h (by omega)
    generalize quoV t = q at C2
    have HC := Lib.hid C
    have HC2 := Lib.hid C2
    clear C C2 hb hl hp hv hlt hle
    go_enter Tryz.func110, Tryz.ntmps110
    go_wp2_with (go_at_call 80; refine HC.out.mono ?_)
    rintro e w2 ⟨rfl, hg, hb2⟩
    have HG := Lib.hid hg
    have HB2 := Lib.hid hb2
    clear hg hb2
    go_wp2_with (go_at_call 139; refine (HC2.out _ HB2.out).mono ?_)
    rintro e w3 ⟨rfl, hg, hb2⟩
    have HG2 := Lib.hid (HG.out.trans hg)
    have HB3 := Lib.hid hb2
    clear hg hb2
    go_wp2_with fail
    go_ret2
    exact ⟨rfl, HG2.out, HB3.out⟩
end Go.Proofs.YtcplaafmelcndaaGreatDoor.At
end
section
/- media.Text's Params, and media.Parse, by hand, in given form. -/
set_option linter.unusedVariables false
set_option linter.unusedSimpArgs false
set_option maxRecDepth 20000
namespace Go.Proofs.YtcplaafmelcndaaGreatDoor.At
open Go.RowKit Go.Lib Go.Shelf Go.Proofs.YtcplaafmelcndaaGreatDoor.Pr Go.Proofs.YtcplaafmelcndaaGreatDoorW.PrintWords
/-- Parameters to the end; the text has no space ahead. -/
def paramsV : Nat → List UInt8 → List S132 → Option (List S132)
  | 0, _, _ => none
  | n + 1, l, acc =>
    if l = [] then some acc
    else if Lib.hasPrefix l [59] = false then none
    else if (skL (Lib.trimPrefix l [59])).takeWhile tokB = [] then none
    else if Lib.hasPrefix ((skL (Lib.trimPrefix l [59])).dropWhile tokB) [61] = false then none
    else if (valV (Lib.trimPrefix ((skL (Lib.trimPrefix l [59])).dropWhile tokB) [61])).2.1 = false then none
    else paramsV n (skL (valV (Lib.trimPrefix ((skL (Lib.trimPrefix l [59])).dropWhile tokB) [61])).2.2) (acc ++ [⟨smallV (bs ((skL (Lib.trimPrefix l [59])).takeWhile tokB)), bs (valV (Lib.trimPrefix ((skL (Lib.trimPrefix l [59])).dropWhile tokB) [61])).1⟩])
theorem dw_le (p : UInt8 → Bool) (l : List UInt8) : (l.dropWhile p).length ≤ l.length := by
  have := congrArg List.length (List.takeWhile_append_dropWhile (p := p) (l := l))
  rw [List.length_append] at this
  omega
theorem quo_len : ∀ (n : Nat) (l acc : List UInt8) (a r : List UInt8), l.length ≤ n → quo l acc = some (a, r) → r.length ≤ l.length ∧ a.length ≤ acc.length + l.length
  | n, [], acc, a, r, _, h => by rw [quo_nil] at h; cases h
  | 0, c :: l, acc, a, r, hn, h => by simp at hn
  | n + 1, c :: l, acc, a, r, hn, h => by
    unfold quo at h
    split at h
    · cases h; simp
    · split at h
      · split at h
        · cases h
        · next d l' =>
          split at h
          · cases h
          · have := quo_len n l' (acc ++ [d]) a r (by simp at hn; omega) h
            simp at this ⊢; omega
      · split at h
        · cases h
        · have := quo_len n l (acc ++ [c]) a r (by simpa using hn) h
          simp at this ⊢; omega
theorem valV_len (l : List UInt8) : (valV l).2.2.length ≤ l.length := by
  unfold valV
  split
  · have h1 := trimPrefix_le l [34]
    unfold quoV
    split
    · next a r h => have := (quo_len _ _ _ _ _ (Nat.le_refl _) h).1; simp; omega
    · simpa using h1
  · exact dw_le _ _
theorem skL_le (l : List UInt8) : (skL l).length ≤ l.length := dw_le _ _
theorem hasPrefix_one {l : List UInt8} {c : UInt8} (h : Lib.hasPrefix l [c] = true) : (Lib.trimPrefix l [c]).length + 1 = l.length := by
  unfold Lib.trimPrefix
  rw [if_pos h]
  cases l with
  | nil => simp [Lib.hasPrefix] at h
  | cons d l => simp
/-- A row of the call's own stays while a block below its base is written. -/
theorem rKeep {w0 w w1 : World} {v : Value} {xs : List S132} {b : Nat} (h : Kd.R k132 132 w w0.heap.size (fun k => w0.heap.size ≤ k) v xs) (hg : w.grownBy w1 (some b)) (hb : b < w0.heap.size) : Kd.R k132 132 w1 w0.heap.size (fun k => w0.heap.size ≤ k) v xs :=
  Kd.R_grown h hg (fun k hk e => by injection e with e; omega)
/-- What Params leaves. -/
def PPost (b : Nat) (w : World) (r : Option (List S132)) (e : Ending) (w' : World) : Prop :=
  ∃ v, e = .returned (.tuple #[v, .bool r.isSome]) ∧ Kd.R k132 132 w' w.heap.size (fun k => w.heap.size ≤ k) v (r.getD []) ∧ w.grownBy w' (some b)
theorem pp_none {b : Nat} {w w' : World} (hg : w.grownBy w' (some b)) : PPost b w none (.returned (.tuple #[.slice none 0 0, .bool false])) w' :=
  ⟨_, rfl, Kd.R_nil _ _ _ _ _, hg⟩
set_option maxHeartbeats 4000000 in
theorem params_any (b : Nat) (l0 : List UInt8) (w : World) (hb : w.heap[b]? = some (.cells #[.string (bs l0)] 104 (0, 0))) (hl : l0.length ≤ 1000000000000) :
    Calls Tryz.prog 81 #[.pointer (some ⟨b, 0, none⟩)] w (PPost b w (paramsV (l0.length + 1) (skL l0) [])) := by
  have C := skip_any b l0 w hb
  have hlt := lt_of_block hb
  obtain ⟨ANS, hA⟩ : ∃ a, paramsV (l0.length + 1) (skL l0) [] = a := ⟨_, rfl⟩
  rw [hA]
  have HA := Lib.hid hA
  have HC := Lib.hid C
  have HL := Lib.hid hl
  have HLT := Lib.hid hlt
  clear hA C hb hl hlt
  go_enter Tryz.func81, Tryz.ntmps81
  go_wp2_with (go_at_call 78; refine HC.out.mono ?_)
  rintro e w2 ⟨rfl, hg, hb2⟩
  have HG := Lib.hid hg
  have HB2 := Lib.hid hb2
  clear hg hb2
  go_wp2_with fail
  have hskl := skL_le l0
  have HSK := Lib.hid hskl
  clear hskl
  go_loopg [2] (l0.length + 1) (fun kx s2 wr => ∃ (l : List UInt8) (acc : List S132), Hid (paramsV kx l acc = ANS) ∧ l.length < kx ∧ Hid (kx ≤ l0.length + 1) ∧ acc.length + kx ≤ l0.length + 1 ∧ Hid (wr.heap[b]? = some (.cells #[.string (bs l)] 104 (0, 0))) ∧ Hid (w.grownBy wr (some b) ∧ Kd.R k132 132 wr w.heap.size (fun k => w.heap.size ≤ k) s2 acc))
  case atStart =>
    exact ⟨skL l0, [], HA.out, by have := HSK.out; omega, Nat.le_refl _, by simp, HB2.out, ⟨HG.out, Kd.R_nil _ _ _ _ _⟩⟩
  case round =>
    obtain ⟨l, acc, HQ, hkx, HK, hacc, HBR, HW⟩ := hrel
    obtain ⟨n, rfl⟩ : ∃ n, gk = n + 1 := ⟨gk - 1, by omega⟩
    have hc := cell_of_one HBR.out
    have hf := free_of_one HBR.out
    have hQ := HQ.out
    unfold paramsV at hQ
    have HKX := Lib.hid (And.intro hkx hacc)
    clear hkx hacc
    by_cases hl0 : l = []
    · rw [if_pos hl0] at hQ
      have e1 : ((bs l).toList = []) = True := by rw [bs_toList]; exact eq_true hl0
      have e2 : (bs l).toList.isEmpty = true := by rw [bs_toList, hl0]; rfl
      have HQ2 := Lib.hid hQ
      clear hQ hl0
      go_wp2_with fail
      go_ret2
      exact ⟨_, by rw [← HQ2.out]; rfl, by rw [← HQ2.out]; exact HW.out.2, HW.out.1⟩
    · rw [if_neg hl0] at hQ
      have e1 : ((bs l).toList = []) = False := by rw [bs_toList]; exact eq_false hl0
      have e2 : (bs l).toList.isEmpty = false := by rw [bs_toList]; simpa using hl0
      clear hl0
      have C1 := take_any b l [59] wr HBR.out
      have HLL : Hid (l.length ≤ 1000000000000) := by have := HKX.out; have := HK.out; have := HL.out; show _ ≤ _; omega
      cases hp : Lib.hasPrefix l [59]
      · rw [if_pos hp] at hQ
        rw [hp] at C1
        have HC1 := Lib.hid C1
        have HQ2 := Lib.hid hQ
        clear hQ C1 hp
        go_wp2_with (first | (go_at_call 80; refine HC1.out.mono ?_))
        rintro e w3 ⟨rfl, hg3, hb3⟩
        have HG3 := Lib.hid (HW.out.1.trans hg3)
        clear hg3 hb3
        go_wp2_with fail
        go_ret2
        rw [← HQ2.out]
        exact pp_none HG3.out
      · rw [if_neg (by rw [hp]; decide)] at hQ
        have hlen := hasPrefix_one hp
        rw [hp] at C1
        generalize Lib.trimPrefix l [59] = l1 at hQ C1 hlen
        have HC1 := Lib.hid C1
        clear C1 hp
        have hsk := skL_le l1
        have C2 := fun W h => skip_any b l1 W h
        generalize skL l1 = l2 at hQ C2 hsk
        have C3 := fun W h => token_any b l2 W h (by have := HLL.out; omega)
        have hdl := dw_le tokB l2
        have htl := tw_le tokB l2
        generalize l2.takeWhile tokB = tk at hQ C3 htl
        generalize l2.dropWhile tokB = l3 at hQ C3 hdl
        have HC2 := Lib.hid C2
        have HC3 := Lib.hid C3
        clear C2 C3
        have HLE := Lib.hid (show l3.length < l.length ∧ tk.length ≤ l.length by omega)
        clear hsk hdl htl hlen
        by_cases htk : tk = []
        · rw [if_pos htk] at hQ
          have f1 : ((bs tk).toList = []) = True := by rw [bs_toList]; exact eq_true htk
          have f2 : (bs tk).toList.isEmpty = true := by rw [bs_toList, htk]; rfl
          have HQ2 := Lib.hid hQ
          clear hQ htk
          go_wp2_with (first | (go_at_call 80; refine HC1.out.mono ?_))
          rintro e w3 ⟨rfl, hg3, hb3⟩
          have HG3 := Lib.hid (HW.out.1.trans hg3)
          have HB3 := Lib.hid hb3
          clear hg3 hb3
          go_wp2_with (first | (go_at_call 78; refine (HC2.out _ HB3.out).mono ?_))
          rintro e w4 ⟨rfl, hg3, hb3⟩
          have HG4 := Lib.hid (HG3.out.trans hg3)
          have HB4 := Lib.hid hb3
          clear hg3 hb3
          go_wp2_with (first | (go_at_call 79; refine (HC3.out _ HB4.out).mono ?_))
          rintro e w5 ⟨rfl, hg3, hb3⟩
          have HG5 := Lib.hid (HG4.out.trans hg3)
          clear hg3 hb3
          go_wp2_with fail
          go_ret2
          rw [← HQ2.out]
          exact pp_none HG5.out
        · rw [if_neg htk] at hQ
          have f1 : ((bs tk).toList = []) = False := by rw [bs_toList]; exact eq_false htk
          have f2 : (bs tk).toList.isEmpty = false := by rw [bs_toList]; simpa using htk
          clear htk
          have C4 := fun W h => take_any b l3 [61] W h
          cases hp : Lib.hasPrefix l3 [61]
          · rw [if_pos hp] at hQ
            rw [hp] at C4
            have HC4 := Lib.hid C4
            have HQ2 := Lib.hid hQ
            clear hQ hp C4
            go_wp2_with (first | (go_at_call 80; refine HC1.out.mono ?_))
            rintro e w3 ⟨rfl, hg3, hb3⟩
            have HG3 := Lib.hid (HW.out.1.trans hg3)
            have HB3 := Lib.hid hb3
            clear hg3 hb3
            go_wp2_with (first | (go_at_call 78; refine (HC2.out _ HB3.out).mono ?_))
            rintro e w4 ⟨rfl, hg3, hb3⟩
            have HG4 := Lib.hid (HG3.out.trans hg3)
            have HB4 := Lib.hid hb3
            clear hg3 hb3
            go_wp2_with (first | (go_at_call 79; refine (HC3.out _ HB4.out).mono ?_))
            rintro e w5 ⟨rfl, hg3, hb3⟩
            have HG5 := Lib.hid (HG4.out.trans hg3)
            have HB5 := Lib.hid hb3
            clear hg3 hb3
            go_wp2_with (first | (go_at_call 80; refine (HC4.out _ HB5.out).mono ?_))
            rintro e w6 ⟨rfl, hg3, hb3⟩
            have HG6 := Lib.hid (HG5.out.trans hg3)
            clear hg3 hb3
            go_wp2_with fail
            go_ret2
            rw [← HQ2.out]
            exact pp_none HG6.out
          · rw [if_neg (by rw [hp]; decide)] at hQ
            have hle4 := trimPrefix_le l3 [61]
            rw [hp] at C4
            generalize Lib.trimPrefix l3 [61] = l4 at hQ C4 hle4
            have C5 := fun W h => value_any b l4 W h (by have := HLE.out; have := HLL.out; omega)
            have hvl := valV_len l4
            generalize valV l4 = q at hQ C5 hvl
            obtain ⟨qv, qb, l5⟩ := q
            simp only at hQ C5 hvl
            have HC4 := Lib.hid C4
            have HC5 := Lib.hid C5
            clear hp C4 C5
            cases qb with
            | false =>
              rw [if_pos rfl] at hQ
              have HQ2 := Lib.hid hQ
              clear hQ hvl hle4
              go_wp2_with (first | (go_at_call 80; refine HC1.out.mono ?_))
              rintro e w3 ⟨rfl, hg3, hb3⟩
              have HG3 := Lib.hid (HW.out.1.trans hg3)
              have HB3 := Lib.hid hb3
              clear hg3 hb3
              go_wp2_with (first | (go_at_call 78; refine (HC2.out _ HB3.out).mono ?_))
              rintro e w4 ⟨rfl, hg3, hb3⟩
              have HG4 := Lib.hid (HG3.out.trans hg3)
              have HB4 := Lib.hid hb3
              clear hg3 hb3
              go_wp2_with (first | (go_at_call 79; refine (HC3.out _ HB4.out).mono ?_))
              rintro e w5 ⟨rfl, hg3, hb3⟩
              have HG5 := Lib.hid (HG4.out.trans hg3)
              have HB5 := Lib.hid hb3
              clear hg3 hb3
              go_wp2_with (first | (go_at_call 80; refine (HC4.out _ HB5.out).mono ?_))
              rintro e w6 ⟨rfl, hg3, hb3⟩
              have HG6 := Lib.hid (HG5.out.trans hg3)
              have HB6 := Lib.hid hb3
              clear hg3 hb3
              go_wp2_with (first | (go_at_call 110; refine (HC5.out _ HB6.out).mono ?_))
              rintro e w7 ⟨rfl, hg3, hb3⟩
              have HG7 := Lib.hid (HG6.out.trans hg3)
              clear hg3 hb3
              go_wp2_with fail
              go_ret2
              rw [← HQ2.out]
              exact pp_none HG7.out
            | true =>
              rw [if_neg (by decide)] at hQ
              have HQ2 := Lib.hid hQ
              have HLE2 := Lib.hid (show l5.length < l.length by have := HLE.out; omega)
              have hsm : media_Small.f (bs tk) = some (smallV (bs tk)) := by unfold media_Small.f; rw [if_pos (by rw [bs_size]; have := HLE.out; have := HLL.out; omega)]
              have HSM := Lib.hid hsm
              clear hQ hvl hle4 hsm
              go_wp2_with (first | (go_at_call 80; refine HC1.out.mono ?_))
              rintro e w3 ⟨rfl, hg3, hb3⟩
              have HG3 := Lib.hid (HW.out.1.trans hg3)
              have HB3 := Lib.hid hb3
              have HR3 := Lib.hid (rKeep HW.out.2 hg3 HLT.out)
              clear hg3 hb3
              go_wp2_with (first | (go_at_call 78; refine (HC2.out _ HB3.out).mono ?_))
              rintro e w4 ⟨rfl, hg3, hb3⟩
              have HG4 := Lib.hid (HG3.out.trans hg3)
              have HB4 := Lib.hid hb3
              have HR4 := Lib.hid (rKeep HR3.out hg3 HLT.out)
              clear hg3 hb3
              go_wp2_with (first | (go_at_call 79; refine (HC3.out _ HB4.out).mono ?_))
              rintro e w5 ⟨rfl, hg3, hb3⟩
              have HG5 := Lib.hid (HG4.out.trans hg3)
              have HB5 := Lib.hid hb3
              have HR5 := Lib.hid (rKeep HR4.out hg3 HLT.out)
              clear hg3 hb3
              go_wp2_with (first | (go_at_call 80; refine (HC4.out _ HB5.out).mono ?_))
              rintro e w6 ⟨rfl, hg3, hb3⟩
              have HG6 := Lib.hid (HG5.out.trans hg3)
              have HB6 := Lib.hid hb3
              have HR6 := Lib.hid (rKeep HR5.out hg3 HLT.out)
              clear hg3 hb3
              go_wp2_with (first | (go_at_call 110; refine (HC5.out _ HB6.out).mono ?_))
              rintro e w7 ⟨rfl, hg3, hb3⟩
              have HG7 := Lib.hid (HG6.out.trans hg3)
              have HB7 := Lib.hid hb3
              have HR7 := Lib.hid (rKeep HR6.out hg3 HLT.out)
              clear hg3 hb3
              go_wp2_with (first | (go_at_call 47; refine (media_Small.calls (bs tk) (smallV (bs tk)) _ HSM.out).mono ?_))
              rintro e w8 ⟨rfl, hb8⟩
              have hlt7 : b < w7.heap.size := lt_of_block HB7.out
              have HG8 := Lib.hid (HG7.out.trans (grown_of_below hb8 (some b)))
              have HB8 := Lib.hid ((hb8.block b hlt7).trans HB7.out)
              have HR8 := Lib.hid (Kd.R_below HR7.out hb8)
              clear hb8 hlt7
              go_wp2_with (first | (at_builtin; refine Kd.R_append k132 (w0 := w8) w.heap.size rfl (.tmp 36) (.tmp 41) 73 132 (.agg #[(.string ⟨#[]⟩), (.string ⟨#[]⟩)]) 32 rfl Tryz.underlying73 info132 rfl (by decide) (by omega) _ acc (⟨smallV (bs tk), bs qv⟩ : S132) [.string (smallV (bs tk)), .string (bs qv)] (fun k => w.heap.size ≤ k) (fun _ => False) rfl rfl ?aP (fun _ hk => hk.elim) ?aF HR8.out (Below.refl _ _) HG8.out.size ?aL ?_))
              case aP => exact k132_mkM _ _ _ (⟨smallV (bs tk), bs qv⟩ : S132)
              case aF => exact fun k hk => Nat.le_trans HG8.out.size hk
              case aL => have := HKX.out; have := HL.out; omega
              intro v1 w9 ho hb9 hg9 hat9
              have HR9 := Lib.hid ho
              have HG9 := Lib.hid (grown_below HG8.out hb9)
              have HB9 := Lib.hid ((hb9.block b HLT.out).trans HB8.out)
              clear ho hb9 hg9 hat9
              have C6 := skip_any b l5 w9 HB9.out
              have HC6 := Lib.hid C6
              clear C6
              go_wp2_with (first | (go_at_call 78; refine HC6.out.mono ?_))
              rintro e w10 ⟨rfl, hg3, hb3⟩
              have HG10 := Lib.hid (HG9.out.trans hg3)
              have HB10 := Lib.hid hb3
              have HR10 := Lib.hid (rKeep HR9.out hg3 HLT.out)
              clear hg3 hb3
              go_wp2_with fail
              go_roundg n
              case measure => omega
              case rel => exact ⟨skL l5, acc ++ [(⟨smallV (bs tk), bs qv⟩ : S132)], HQ2.out, by have := skL_le l5; have := HLE2.out; have := HKX.out; omega, by have := HK.out; show _ ≤ _; omega, by have := HKX.out; simp; omega, HB10.out, ⟨HG10.out, HR10.out⟩⟩
/-- media.Parse: what it is. -/
def mtA (s : ByteArray) : List UInt8 := (skL s.data.toList).takeWhile tokB
def mtS (s : ByteArray) : List UInt8 := (skL s.data.toList).dropWhile tokB
def mtB (s : ByteArray) : List UInt8 := (Lib.trimPrefix (mtS s) [47]).takeWhile tokB
def mtC (s : ByteArray) : List UInt8 := (Lib.trimPrefix (mtS s) [47]).dropWhile tokB
def mtP (s : ByteArray) : Option (List S132) := paramsV ((mtC s).length + 1) (skL (mtC s)) []
/-- May a text not be a media type? -/
def mtBad (s : ByteArray) : Bool := decide (mtA s = []) || !Lib.hasPrefix (mtS s) [47] || decide (mtB s = []) || !(mtP s).isSome || (decide (mtA s = [42]) && !decide (mtB s = [42]))
def mediaV (s : ByteArray) : ByteArray × ByteArray × List S132 × Int :=
  if mtBad s = true then (⟨#[]⟩, ⟨#[]⟩, [], 130) else (smallV (bs (mtA s)), smallV (bs (mtB s)), (mtP s).getD [], 0)
theorem small_any (l : List UInt8) (hl : l.length ≤ 1000000000000) (w : World) : Calls Tryz.prog 47 #[.string (bs l)] w fun e w' => e = .returned (.string (smallV (bs l))) ∧ Below w.heap.size w w' :=
  media_Small.calls (bs l) (smallV (bs l)) w (by unfold media_Small.f; rw [if_pos (by rw [bs_size]; exact hl)])
set_option maxHeartbeats 4000000 in
theorem parse_any (s : ByteArray) (hs : s.size ≤ 1000000000000) (w : World) :
    Calls Tryz.prog 46 #[.string s] w fun e w' => ∃ v, e = .returned (.tuple #[.agg #[.string (mediaV s).1, .string (mediaV s).2.1, v], .int .i64 (mediaV s).2.2.2]) ∧ Kd.R k132 132 w' w.heap.size (fun _ => True) v (mediaV s).2.2.1 ∧ Below w.heap.size w w' := by
  have hls : s.data.toList.length = s.size := by rw [Array.length_toList]; rfl
  rw [show (Value.string s) = Value.string (bs s.data.toList) by rw [← bs_of]]
  obtain ⟨M, hM⟩ : ∃ M, mediaV s = M := ⟨_, rfl⟩
  rw [hM]
  unfold mediaV mtBad mtP mtC mtB mtS mtA at hM
  generalize s.data.toList = l0 at hls hM ⊢
  have C1 := fun W h => skip_any (w.heap.size + 1) l0 W h
  have hk := skL_le l0
  generalize skL l0 = l1 at C1 hk hM
  have C2 := fun W h => token_any (w.heap.size + 1) l1 W h (by omega)
  have ha := tw_le tokB l1
  have hd := dw_le tokB l1
  generalize l1.takeWhile tokB = a at C2 ha hM
  generalize l1.dropWhile tokB = l2 at C2 hd hM
  have C3 := fun W h => take_any (w.heap.size + 1) l2 [47] W h
  have ht := trimPrefix_le l2 [47]
  generalize Lib.trimPrefix l2 [47] = l3 at C3 ht hM
  generalize Lib.hasPrefix l2 [47] = slash at C3 hM
  have C4 := fun W h => token_any (w.heap.size + 1) l3 W h (by omega)
  have hb := tw_le tokB l3
  have hd2 := dw_le tokB l3
  generalize l3.takeWhile tokB = bb at C4 hb hM
  generalize l3.dropWhile tokB = l4 at C4 hd2 hM
  have C5 := fun W h => params_any (w.heap.size + 1) l4 W h (by omega)
  generalize paramsV (l4.length + 1) (skL l4) [] = pp at C5 hM
  have HM := Lib.hid hM
  clear hM
  have C6 := fun W => small_any a (by omega) W
  have C7 := fun W => small_any bb (by omega) W
  have HC1 := Lib.hid C1
  have HC2 := Lib.hid C2
  have HC3 := Lib.hid C3
  have HC4 := Lib.hid C4
  have HC5 := Lib.hid C5
  have HC6 := Lib.hid C6
  have HC7 := Lib.hid C7
  clear C1 C2 C3 C4 C5 C6 C7 hls hk ha hd ht hb hd2 hs
  obtain ⟨W0, hW0⟩ : ∃ W0, W0 = (w.alloc (.cells #[.string ⟨#[]⟩, .string ⟨#[]⟩, .slice none 0 0] 75)).alloc (.cells #[.string (bs l0)] 104) := ⟨_, rfl⟩
  have hs0 : W0.heap.size = w.heap.size + 2 := by rw [hW0]; simp
  have hb0 : W0.heap[w.heap.size + 1]? = some (.cells #[.string (bs l0)] 104 (0, 0)) := by
    have h := heap_alloc_new (w.alloc (.cells #[.string ⟨#[]⟩, .string ⟨#[]⟩, .slice none 0 0] 75)) (.cells #[.string (bs l0)] 104)
    rw [show (w.alloc (.cells #[.string ⟨#[]⟩, .string ⟨#[]⟩, .slice none 0 0] 75)).heap.size = w.heap.size + 1 from Array.size_push _] at h
    rw [hW0]; exact h
  have hr0 : W0.heap[w.heap.size]? = some (.cells #[.string ⟨#[]⟩, .string ⟨#[]⟩, .slice none 0 0] 75 (0, 0)) := by
    rw [hW0]; exact blk_alloc (heap_alloc_new w _) _
  have hB0 : Below w.heap.size w W0 := by rw [hW0]; exact ((Below.refl _ _).alloc (Nat.le_refl _) _).alloc (by simp) _
  have HW := Lib.hid hW0
  have HS0 := Lib.hid hs0
  have HB0 := Lib.hid hb0
  have HR0 := Lib.hid hr0
  have HBL := Lib.hid hB0
  clear hW0 hs0 hb0 hr0 hB0
  go_enter Tryz.func46, Tryz.ntmps46
  go_wp2_with (first | (go_at_call 78; rw [← HW.out]; refine (HC1.out _ HB0.out).mono ?_))
  rintro e w1 ⟨rfl, hg, hb⟩
  have HG1 := Lib.hid hg
  have HB1 := Lib.hid hb
  clear hg hb
  go_wp2_with (first | (go_at_call 79; refine (HC2.out _ HB1.out).mono ?_))
  rintro e w2 ⟨rfl, hg, hb⟩
  have HG2 := Lib.hid (HG1.out.trans hg)
  have HB2 := Lib.hid hb
  clear hg hb
  go_wp2_with (first | (go_at_call 80; refine (HC3.out _ HB2.out).mono ?_))
  rintro e w3 ⟨rfl, hg, hb⟩
  have HG3 := Lib.hid (HG2.out.trans hg)
  have HB3 := Lib.hid hb
  clear hg hb
  go_wp2_with (first | (go_at_call 79; refine (HC4.out _ HB3.out).mono ?_))
  rintro e w4 ⟨rfl, hg, hb⟩
  have HG4 := Lib.hid (HG3.out.trans hg)
  have HB4 := Lib.hid hb
  clear hg hb
  go_wp2_with (first | (go_at_call 81; refine (HC5.out _ HB4.out).mono ?_))
  rintro e w5 ⟨v, rfl, hR, hg⟩
  have HG5 := Lib.hid (HG4.out.trans hg)
  have HR5 := Lib.hid (Kd.R_lower (base' := w.heap.size) hR (by have := HG4.out.size; have := HS0.out; omega))
  have hblk : w5.heap[w.heap.size]? = some (.cells #[.string ⟨#[]⟩, .string ⟨#[]⟩, .slice none 0 0] 75 (0, 0)) := (HG5.out.block _ (by have := HS0.out; omega) (by simp)).trans HR0.out
  have HBK := Lib.hid hblk
  have k0 := blk_cell hblk 0
  have k1 := blk_cell hblk 1
  have k2 := blk_cell hblk 2
  have fz0 := blk_frozen hblk 0
  have fz1 := blk_frozen hblk 1
  have fz2 := blk_frozen hblk 2
  simp only [List.getElem?_toArray, List.getElem?_cons_zero, List.getElem?_cons_succ] at k0 k1 k2
  have HBE := Lib.hid (show Below w.heap.size w w5 from HBL.out.trans ⟨HG5.out.os, HG5.out.tape, HG5.out.output, HG5.out.size, fun k hk => HG5.out.block k (by have := HS0.out; omega) (by intro e; injection e with e; omega)⟩)
  have hw5 : w.heap.size < w5.heap.size := by have := HG5.out.size; have := HS0.out; omega
  have HW5 := Lib.hid hw5
  obtain ⟨A, cc, rfl⟩ := Kd.R_slice hR
  clear hR hg hblk hw5
  by_cases h1 : a = []
  · have f1 : ((bs a).toList = []) = True := by rw [bs_toList]; exact eq_true h1
    have f1b : (bs a).toList.isEmpty = true := by rw [bs_toList]; simpa using h1
    have g1 : decide (a = []) = true := decide_eq_true h1
    have HMb : Hid (M = (⟨#[]⟩, ⟨#[]⟩, [], 130)) := by rw [← HM.out, if_pos (by rw [g1]; simp)]; exact rfl
    clear h1 g1
    go_wp2_with fail
    refine bodyPost_ret (results_ct rfl _ _ w.heap.size 75 #[.string ⟨#[]⟩, .string ⟨#[]⟩, .slice none 0 0] (0, 0) _ rfl (blk_put (cs := #[.string ⟨#[]⟩, .string ⟨#[]⟩, .slice none 0 0]) (blk_put (cs := #[.string ⟨#[]⟩, .string ⟨#[]⟩, .slice none 0 0]) (blk_put (cs := #[.string ⟨#[]⟩, .string ⟨#[]⟩, .slice none 0 0]) HBK.out 0 _ rfl) 1 _ rfl) 2 _ rfl) Tryz.underlying75 rfl (by kernel_rfl)) rfl ?_
    rw [HMb.out]
    exact ⟨_, rfl, Kd.R_nil _ _ _ _ _, ((HBE.out.setCell (Nat.le_refl _) _).setCell (Nat.le_refl _) _).setCell (Nat.le_refl _) _⟩
  · have f1 : ((bs a).toList = []) = False := by rw [bs_toList]; exact eq_false h1
    have f1b : (bs a).toList.isEmpty = false := by rw [bs_toList]; simpa using h1
    have g1 : decide (a = []) = false := decide_eq_false h1
    cases slash with
    | false =>
      have HMb : Hid (M = (⟨#[]⟩, ⟨#[]⟩, [], 130)) := by rw [← HM.out, if_pos (by rw [g1]; simp)]; exact rfl
      clear h1 g1
      go_wp2_with fail
      refine bodyPost_ret (results_ct rfl _ _ w.heap.size 75 #[.string ⟨#[]⟩, .string ⟨#[]⟩, .slice none 0 0] (0, 0) _ rfl (blk_put (cs := #[.string ⟨#[]⟩, .string ⟨#[]⟩, .slice none 0 0]) (blk_put (cs := #[.string ⟨#[]⟩, .string ⟨#[]⟩, .slice none 0 0]) (blk_put (cs := #[.string ⟨#[]⟩, .string ⟨#[]⟩, .slice none 0 0]) HBK.out 0 _ rfl) 1 _ rfl) 2 _ rfl) Tryz.underlying75 rfl (by kernel_rfl)) rfl ?_
      rw [HMb.out]
      exact ⟨_, rfl, Kd.R_nil _ _ _ _ _, ((HBE.out.setCell (Nat.le_refl _) _).setCell (Nat.le_refl _) _).setCell (Nat.le_refl _) _⟩
    | true =>
      by_cases h2 : bb = []
      · have f2 : ((bs bb).toList = []) = True := by rw [bs_toList]; exact eq_true h2
        have f2b : (bs bb).toList.isEmpty = true := by rw [bs_toList]; simpa using h2
        have g2 : decide (bb = []) = true := decide_eq_true h2
        have HMb : Hid (M = (⟨#[]⟩, ⟨#[]⟩, [], 130)) := by rw [← HM.out, if_pos (by rw [g1, g2]; simp)]; exact rfl
        clear h1 h2 g1 g2
        go_wp2_with fail
        refine bodyPost_ret (results_ct rfl _ _ w.heap.size 75 #[.string ⟨#[]⟩, .string ⟨#[]⟩, .slice none 0 0] (0, 0) _ rfl (blk_put (cs := #[.string ⟨#[]⟩, .string ⟨#[]⟩, .slice none 0 0]) (blk_put (cs := #[.string ⟨#[]⟩, .string ⟨#[]⟩, .slice none 0 0]) (blk_put (cs := #[.string ⟨#[]⟩, .string ⟨#[]⟩, .slice none 0 0]) HBK.out 0 _ rfl) 1 _ rfl) 2 _ rfl) Tryz.underlying75 rfl (by kernel_rfl)) rfl ?_
        rw [HMb.out]
        exact ⟨_, rfl, Kd.R_nil _ _ _ _ _, ((HBE.out.setCell (Nat.le_refl _) _).setCell (Nat.le_refl _) _).setCell (Nat.le_refl _) _⟩
      · have f2 : ((bs bb).toList = []) = False := by rw [bs_toList]; exact eq_false h2
        have f2b : (bs bb).toList.isEmpty = false := by rw [bs_toList]; simpa using h2
        have g2 : decide (bb = []) = false := decide_eq_false h2
        obtain ⟨po, hpo⟩ : ∃ po, pp.isSome = po := ⟨_, rfl⟩
        rw [hpo]
        have HPO := Lib.hid hpo
        clear hpo
        cases po with
        | false =>
          have HMb : Hid (M = (⟨#[]⟩, ⟨#[]⟩, [], 130)) := by rw [← HM.out, if_pos (by rw [g1, g2, HPO.out]; simp)]; exact rfl
          clear h1 h2 g1 g2
          go_wp2_with fail
          refine bodyPost_ret (results_ct rfl _ _ w.heap.size 75 #[.string ⟨#[]⟩, .string ⟨#[]⟩, .slice none 0 0] (0, 0) _ rfl (blk_put (cs := #[.string ⟨#[]⟩, .string ⟨#[]⟩, .slice none 0 0]) (blk_put (cs := #[.string ⟨#[]⟩, .string ⟨#[]⟩, .slice none 0 0]) (blk_put (cs := #[.string ⟨#[]⟩, .string ⟨#[]⟩, .slice none 0 0]) HBK.out 0 _ rfl) 1 _ rfl) 2 _ rfl) Tryz.underlying75 rfl (by kernel_rfl)) rfl ?_
          rw [HMb.out]
          exact ⟨_, rfl, Kd.R_nil _ _ _ _ _, ((HBE.out.setCell (Nat.le_refl _) _).setCell (Nat.le_refl _) _).setCell (Nat.le_refl _) _⟩
        | true =>
          by_cases h3 : a = [42]
          · have f3 : ((bs a).toList = [42]) = True := by rw [bs_toList]; exact eq_true h3
            have f3b : ((bs a).toList == [42]) = true := by rw [bs_toList]; simpa using h3
            have f3c : ((bs a).toList != [42]) = false := by rw [bs_toList]; simpa using h3
            have g3 : decide (a = [42]) = true := decide_eq_true h3
            by_cases h4 : bb = [42]
            · have f4 : ((bs bb).toList = [42]) = True := by rw [bs_toList]; exact eq_true h4
              have f4b : ((bs bb).toList == [42]) = true := by rw [bs_toList]; simpa using h4
              have f4c : ((bs bb).toList != [42]) = false := by rw [bs_toList]; simpa using h4
              have g4 : decide (bb = [42]) = true := decide_eq_true h4
              have HMb : Hid (M = (smallV (bs a), smallV (bs bb), pp.getD [], 0)) := by rw [← HM.out, if_neg (by rw [g1, g2, HPO.out, g3, g4]; simp)]; exact rfl
              clear h1 h2 h3 h4 g1 g2 g3 g4
              go_wp2_with (first | (go_at_call 47; refine (HC6.out _).mono ?_))
              rintro e w6 ⟨rfl, hb⟩
              have HB6 := Lib.hid (HBE.out.trans (hb.mono (Nat.le_of_lt HW5.out)))
              have HBK6 := Lib.hid (blk_below HBK.out hb)
              have HR6 := Lib.hid (Kd.R_below HR5.out hb)
              have HW6 := Lib.hid (Nat.lt_of_lt_of_le HW5.out hb.size)
              clear hb k0 k1 k2 fz0 fz1 fz2
              go_wp2_with (first | (go_at_call 47; refine (HC7.out _).mono ?_))
              rintro e w7 ⟨rfl, hb⟩
              have HB7 := Lib.hid (HB6.out.trans (hb.mono (Nat.le_of_lt HW6.out)))
              have hblk := blk_below HBK6.out hb
              have HBK7 := Lib.hid hblk
              have HR7 := Lib.hid (Kd.R_below HR6.out hb)
              have k0 := blk_cell hblk 0
              have k1 := blk_cell hblk 1
              have k2 := blk_cell hblk 2
              have fz0 := blk_frozen hblk 0
              have fz1 := blk_frozen hblk 1
              have fz2 := blk_frozen hblk 2
              simp only [List.getElem?_toArray, List.getElem?_cons_zero, List.getElem?_cons_succ] at k0 k1 k2
              clear hb hblk
              go_wp2_with fail
              refine bodyPost_ret (results_ct rfl _ _ w.heap.size 75 #[.string (smallV (bs a)), .string (smallV (bs bb)), .slice A (pp.getD []).length cc] (0, 0) _ rfl (blk_put (cs := #[.string (smallV (bs a)), .string (smallV (bs bb)), .slice none 0 0]) (blk_put (cs := #[.string (smallV (bs a)), .string ⟨#[]⟩, .slice none 0 0]) (blk_put (cs := #[.string ⟨#[]⟩, .string ⟨#[]⟩, .slice none 0 0]) HBK7.out 0 _ rfl) 1 _ rfl) 2 _ rfl) Tryz.underlying75 rfl (by kernel_rfl)) rfl ?_
              rw [HMb.out]
              refine ⟨_, rfl, ?_, ((HB7.out.setCell (Nat.le_refl _) _).setCell (Nat.le_refl _) _).setCell (Nat.le_refl _) _⟩
              have hok : ∀ k, w4.heap.size ≤ k → k ≠ w.heap.size := fun k hk e => by have := HG4.out.size; have := HS0.out; omega
              exact Kd.R_mono (Kd.R_far (Kd.R_far (Kd.R_far HR7.out hok _) hok _) hok _) (fun _ _ => trivial)
            · have f4 : ((bs bb).toList = [42]) = False := by rw [bs_toList]; exact eq_false h4
              have f4b : ((bs bb).toList == [42]) = false := by rw [bs_toList]; simpa using h4
              have f4c : ((bs bb).toList != [42]) = true := by rw [bs_toList]; simpa using h4
              have g4 : decide (bb = [42]) = false := decide_eq_false h4
              have HMb : Hid (M = (⟨#[]⟩, ⟨#[]⟩, [], 130)) := by rw [← HM.out, if_pos (by rw [g1, g2, HPO.out, g3, g4]; simp)]; exact rfl
              clear h1 h2 h3 h4 g1 g2 g3 g4
              go_wp2_with fail
              refine bodyPost_ret (results_ct rfl _ _ w.heap.size 75 #[.string ⟨#[]⟩, .string ⟨#[]⟩, .slice none 0 0] (0, 0) _ rfl (blk_put (cs := #[.string ⟨#[]⟩, .string ⟨#[]⟩, .slice none 0 0]) (blk_put (cs := #[.string ⟨#[]⟩, .string ⟨#[]⟩, .slice none 0 0]) (blk_put (cs := #[.string ⟨#[]⟩, .string ⟨#[]⟩, .slice none 0 0]) HBK.out 0 _ rfl) 1 _ rfl) 2 _ rfl) Tryz.underlying75 rfl (by kernel_rfl)) rfl ?_
              rw [HMb.out]
              exact ⟨_, rfl, Kd.R_nil _ _ _ _ _, ((HBE.out.setCell (Nat.le_refl _) _).setCell (Nat.le_refl _) _).setCell (Nat.le_refl _) _⟩
          · have f3 : ((bs a).toList = [42]) = False := by rw [bs_toList]; exact eq_false h3
            have f3b : ((bs a).toList == [42]) = false := by rw [bs_toList]; simpa using h3
            have f3c : ((bs a).toList != [42]) = true := by rw [bs_toList]; simpa using h3
            have g3 : decide (a = [42]) = false := decide_eq_false h3
            have HMb : Hid (M = (smallV (bs a), smallV (bs bb), pp.getD [], 0)) := by rw [← HM.out, if_neg (by rw [g1, g2, HPO.out, g3]; simp)]; exact rfl
            clear h1 h2 h3 g1 g2 g3
            go_wp2_with (first | (go_at_call 47; refine (HC6.out _).mono ?_))
            rintro e w6 ⟨rfl, hb⟩
            have HB6 := Lib.hid (HBE.out.trans (hb.mono (Nat.le_of_lt HW5.out)))
            have HBK6 := Lib.hid (blk_below HBK.out hb)
            have HR6 := Lib.hid (Kd.R_below HR5.out hb)
            have HW6 := Lib.hid (Nat.lt_of_lt_of_le HW5.out hb.size)
            clear hb k0 k1 k2 fz0 fz1 fz2
            go_wp2_with (first | (go_at_call 47; refine (HC7.out _).mono ?_))
            rintro e w7 ⟨rfl, hb⟩
            have HB7 := Lib.hid (HB6.out.trans (hb.mono (Nat.le_of_lt HW6.out)))
            have hblk := blk_below HBK6.out hb
            have HBK7 := Lib.hid hblk
            have HR7 := Lib.hid (Kd.R_below HR6.out hb)
            have k0 := blk_cell hblk 0
            have k1 := blk_cell hblk 1
            have k2 := blk_cell hblk 2
            have fz0 := blk_frozen hblk 0
            have fz1 := blk_frozen hblk 1
            have fz2 := blk_frozen hblk 2
            simp only [List.getElem?_toArray, List.getElem?_cons_zero, List.getElem?_cons_succ] at k0 k1 k2
            clear hb hblk
            go_wp2_with fail
            refine bodyPost_ret (results_ct rfl _ _ w.heap.size 75 #[.string (smallV (bs a)), .string (smallV (bs bb)), .slice A (pp.getD []).length cc] (0, 0) _ rfl (blk_put (cs := #[.string (smallV (bs a)), .string (smallV (bs bb)), .slice none 0 0]) (blk_put (cs := #[.string (smallV (bs a)), .string ⟨#[]⟩, .slice none 0 0]) (blk_put (cs := #[.string ⟨#[]⟩, .string ⟨#[]⟩, .slice none 0 0]) HBK7.out 0 _ rfl) 1 _ rfl) 2 _ rfl) Tryz.underlying75 rfl (by kernel_rfl)) rfl ?_
            rw [HMb.out]
            refine ⟨_, rfl, ?_, ((HB7.out.setCell (Nat.le_refl _) _).setCell (Nat.le_refl _) _).setCell (Nat.le_refl _) _⟩
            have hok : ∀ k, w4.heap.size ≤ k → k ≠ w.heap.size := fun k hk e => by have := HG4.out.size; have := HS0.out; omega
            exact Kd.R_mono (Kd.R_far (Kd.R_far (Kd.R_far HR7.out hok _) hok _) hok _) (fun _ _ => trivial)
def media_Parse.f (a0 : ByteArray) : Option (ByteArray × ByteArray × (List (S132)) × Int) := if a0.size ≤ 1000000000000 then some (mediaV a0) else none
theorem media_Parse.calls (a0 : ByteArray) (r1 : ByteArray) (r2 : ByteArray) (r3 : List (S132)) (r4 : Int) (w : World) (h : media_Parse.f a0 = some (r1, r2, r3, r4)) :
    Calls Tryz.prog 46 #[.string a0] w fun e w' => ∃ v2_ : Value, e = .returned (.tuple #[.agg #[.string r1, .string r2, v2_], .int .i64 r4]) ∧ Kd.R k132 132 w' w.heap.size (fun _ => True) v2_ r3 ∧ Below w.heap.size w w' := by
  unfold media_Parse.f at h
  split at h
  case isFalse => cases h
  case isTrue hs =>
    have h1 := parse_any a0 hs w
    rw [Option.some.inj h] at h1
    exact h1
end Go.Proofs.YtcplaafmelcndaaGreatDoor.At
end
