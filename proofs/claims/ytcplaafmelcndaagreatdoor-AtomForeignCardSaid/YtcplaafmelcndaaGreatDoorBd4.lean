/- 9 texts in one file: Pl1, Pl2, Pl3, Rgt, Awe, Awk, Ord, Mow, Odr. -/
import Derived.Test.YtcplaafmelcndaaGreatDoorPrx5
import Derived.Test.YtcplaafmelcndaaGreatDoorVar
import Derived.Test.YtcplaafmelcndaaGreatDoorSch
import Derived.Test.YtcplaafmelcndaaGreatDoorChk
import Derived.Test.YtcplaafmelcndaaGreatDoorMis
import Derived.Test.YtcplaafmelcndaaGreatDoorBd1
import Derived.Test.YtcplaafmelcndaaGreatDoorBd2
import Derived.Test.YtcplaafmelcndaaGreatDoorBd3
import Derived.Deep.LoopGhost
section
/- What the printed functions below atom.Check compute, in plain words: attributes, texts, references. -/
set_option linter.unusedVariables false
set_option linter.unusedSimpArgs false
set_option maxRecDepth 20000
namespace Go.Proofs.YtcplaafmelcndaaGreatDoor.At
open Go.RowKit Go.Lib Go.Proofs.YtcplaafmelcndaaGreatDoor.Pr Go.Proofs.YtcplaafmelcndaaGreatDoorW.PrintWords
theorem wr64 {x : Int} (h1 : -9223372036854775808 ≤ x) (h2 : x ≤ 9223372036854775807) : wrap64 x = x := Go.IntWalk.wrap64_in _ (by omega)
theorem rd41_at (l : List S41) (i : Nat) (h : i < l.length) : rd_T41 l (i : Int) = l[i] := by
  unfold rd_T41
  simp [h]
theorem attr_loop (name : ByteArray) (l : List S41) (hl : l.length ≤ 1000000000) : ∀ (d i k : Nat), l.length - i = d → i ≤ l.length → d < k → atom_Attr.l0 k name l (l.length : Int) (i : Int) = some (attrV (l.drop i) name) := by
  intro d
  induction d with
  | zero =>
    intro i k hd hi hk
    obtain ⟨k, rfl⟩ : ∃ q, k = q + 1 := ⟨k - 1, by omega⟩
    unfold atom_Attr.l0
    rw [if_neg (by omega), List.drop_of_length_le (by omega)]
    rfl
  | succ d ih =>
    intro i k hd hi hk
    obtain ⟨k, rfl⟩ : ∃ q, k = q + 1 := ⟨k - 1, by omega⟩
    unfold atom_Attr.l0
    rw [if_pos (by omega), if_pos (by omega), if_pos (by omega), rd41_at l i (by omega), List.drop_eq_getElem_cons (show i < l.length by omega), wr64 (by omega) (by omega)]
    have hi1 := ih (i + 1) k (by omega) (by omega) (by omega)
    rw [show ((i : Int) + 1) = ((i + 1 : Nat) : Int) by omega, hi1]
    unfold attrV
    by_cases h1 : (l[i]'(by omega)).f0.toList = []
    · rw [if_pos h1]
      by_cases h2 : (l[i]'(by omega)).f1.toList = name.toList
      · rw [if_pos h2, if_pos ⟨h1, h2⟩]
      · rw [if_neg h2, if_neg (fun h => h2 h.2)]
        cases hdr : l.drop (i + 1) <;> simp [attrV]
    · rw [if_neg h1, if_neg (fun h => h1 h.1)]
      cases hdr : l.drop (i + 1) <;> simp [attrV]
theorem attr_f (x : S25) (hS : Sm x) (name : ByteArray) (k : Nat) (hk : 4000 ≤ k) : atom_Attr.f k x.f0 x.f1 x.f2 x.f3 x.f4 x.f5 name = some (attrV x.f3 name) := by
  have := hS.len3
  unfold atom_Attr.f
  have h := attr_loop name x.f3 (by omega) x.f3.length 0 k (by omega) (by omega) (by omega)
  simpa using h
theorem rel_f (x : S25) (hS : Sm x) (k : Nat) (hk : 4000 ≤ k) : atom_Rel.f k x.f0 x.f1 x.f2 x.f3 x.f4 x.f5 = some (relV x.f3) := by
  unfold atom_Rel.f
  have h := attr_f x hS relB k hk
  unfold relB at h
  rw [h, Option.bind_some]
  unfold relV relB altB
  split <;> rfl
/-- A node whose cells are known, taken apart. -/
theorem pm_calls {z : Pm} {w : World} (hK : k25.K w z.x z.c.enc) {g : Nat} {post : Ending → World → Prop} (h : ∀ (A3 A4 : Option Addr) (c3 c4 : Nat), Kd.C k41 w A3 z.x.f3.length z.x.f3 → z.x.f3.length ≤ c3 → Kd.C k25 w A4 z.x.f4.length z.x.f4 → z.x.f4.length ≤ c4 → Calls Tryz.prog g #[.agg #[.int .i64 z.x.f0, .string z.x.f1, .string z.x.f2, .slice A3 z.x.f3.length c3, .slice A4 z.x.f4.length c4, .string z.x.f5]] w post) : Calls Tryz.prog g #[.agg z.c.enc.toArray] w post := by
  obtain ⟨l3, g3, l4, g4⟩ := pm_rows z hK
  obtain ⟨x, ⟨y0, y1, y2, A3, n3, c3, A4, n4, c4, y5⟩, e0, e1, e2, e3, e4, e5⟩ := z
  simp only at e0 e1 e2 e3 e4 e5 l3 g3 l4 g4 h
  subst e0 e1 e2 e3 e4 e5
  exact h A3 A4 c3 c4 g3 l3 g4 l4
theorem lowerV : LowerV where
  attr := fun z name w hK hS => by
    obtain ⟨l3, g3, l4, g4⟩ := pm_rows z hK
    have hf := attr_f z.x hS name 4000 (Nat.le_refl _)
    obtain ⟨x, ⟨y0, y1, y2, A3, n3, c3, A4, n4, c4, y5⟩, e0, e1, e2, e3, e4, e5⟩ := z
    simp only at e0 e1 e2 e3 e4 e5 l3 g3 l4 g4 hf
    subst e0 e1 e2 e3 e4 e5
    exact atom_Attr.calls 4000 _ _ _ A3 c3 x.f3 A4 c4 x.f4 _ name _ _ w g3 l3 g4 l4 hf
  rel := fun z w hK hS => pm_calls hK (fun A3 A4 c3 c4 g3 l3 g4 l4 => atom_Rel.calls 4000 _ _ _ A3 c3 z.x.f3 A4 c4 z.x.f4 _ _ w g3 l3 g4 l4 (rel_f z.x hS 4000 (Nat.le_refl _)))
theorem trim_f (x : S25) (hS : Sm x) (k : Nat) : atom_Trimmed.f k x.f0 x.f1 x.f2 x.f3 x.f4 x.f5 = some (trimV x.f4) := by
  have h1 := textL_len x.f4 (fun y hy => (hS.kids y hy).data)
  have h2 := hS.len
  have hs : (⟨(textL x.f4).toArray⟩ : ByteArray).size = (textL x.f4).length := by show (textL x.f4).toArray.size = _; simp
  unfold atom_Trimmed.f atom_Text.f
  rw [if_pos (by omega), Option.bind_some]
  unfold strings_Trim.f
  rw [if_pos ⟨by omega, by decide, by decide⟩, Option.bind_some]
  unfold trimV
  rfl
/-- No byte of a set. -/
def nin (set : List UInt8) (c : UInt8) : Bool := decide (Lib.indexByte set c < 0)
def bsl (l : List UInt8) : ByteArray := ⟨l.toArray⟩
theorem bsl_size (l : List UInt8) : (bsl l).size = l.length := by show l.toArray.size = _; simp
theorem bsl_list (l : List UInt8) : (bsl l).data.toList = l := by show l.toArray.toList = _; simp
theorem bsl_toList (l : List UInt8) : (bsl l).toList = l := by rw [ByteArray.toList_eq, bsl_list]
theorem bsl_of (s : ByteArray) : s = bsl s.data.toList := by unfold bsl; simp
theorem bsl_extract (l : List UInt8) (i j : Nat) : (bsl l).extract i j = bsl ((l.take j).drop i) := by
  unfold bsl
  apply ByteArray.ext
  rw [ByteArray.data_extract]
  apply Array.ext'
  simp [List.extract_eq_take_drop, List.drop_take]
theorem bsl_bt (l : List UInt8) (i : Nat) (h : i < l.length) : bt (bsl l) (i : Int) = ((l[i].toNat : Nat) : Int) := by
  have h' : i < (bsl l).size := by rw [bsl_size]; exact h
  unfold bt
  simp only [Int.toNat_natCast]
  rw [dif_pos h']
  have : (bsl l)[i]'h' = l[i] := by
    show l.toArray[i]'(by simpa using h) = _
    exact List.getElem_toArray _
  rw [this]
  rfl
theorem tw_drop1 (p : UInt8 → Bool) (l : List UInt8) (i : Nat) (h : i < l.length) (hp : p l[i] = false) (hb : ∀ (j : Nat) (hj : j < i), p (l[j]'(by omega)) = true) : l.takeWhile p = l.take i ∧ l.dropWhile p = l.drop i := by
  induction l generalizing i with
  | nil => simp at h
  | cons c l ih =>
    cases i with
    | zero =>
      simp only [List.getElem_cons_zero] at hp
      simp [List.takeWhile_cons, List.dropWhile_cons, hp]
    | succ i =>
      have h0 := hb 0 (by omega)
      simp only [List.getElem_cons_zero] at h0
      obtain ⟨h1, h2⟩ := ih i (by simpa using h) (by simpa using hp) (fun j hj => by have := hb (j + 1) (by omega); simpa using this)
      simp [List.takeWhile_cons, List.dropWhile_cons, h0, h1, h2]
theorem tw_all (p : UInt8 → Bool) (l : List UInt8) (hb : ∀ (j : Nat) (hj : j < l.length), p l[j] = true) : l.takeWhile p = l ∧ l.dropWhile p = [] := by
  induction l with
  | nil => exact ⟨rfl, rfl⟩
  | cons c l ih =>
    have h0 := hb 0 (by simp)
    simp only [List.getElem_cons_zero] at h0
    obtain ⟨h1, h2⟩ := ih (fun j hj => by have := hb (j + 1) (by simpa using hj); simpa using this)
    simp [List.takeWhile_cons, List.dropWhile_cons, h0, h1, h2]
theorem cut_loop (l set : List UInt8) (hl : l.length ≤ 1000000000) : ∀ (d i k : Nat), l.length - i = d → i ≤ l.length → d < k → (∀ (j : Nat) (hj : j < i) (hl : j < l.length), nin set l[j] = true) →
    locator_cut.l0 k (bsl l) (bsl set) (l.length : Int) (i : Int) = some (bsl (l.takeWhile (nin set)), bsl (l.dropWhile (nin set))) := by
  intro d
  induction d with
  | zero =>
    intro i k hd hi hk hb
    obtain ⟨k, rfl⟩ : ∃ q, k = q + 1 := ⟨k - 1, by omega⟩
    unfold locator_cut.l0
    rw [if_neg (by omega)]
    obtain ⟨h1, h2⟩ := tw_all (nin set) l (fun j hj => hb j (by omega) hj)
    rw [h1, h2]
    rfl
  | succ d ih =>
    intro i k hd hi hk hb
    obtain ⟨k, rfl⟩ : ∃ q, k = q + 1 := ⟨k - 1, by omega⟩
    have hil : i < l.length := by omega
    unfold locator_cut.l0
    rw [if_pos (by omega), if_pos (by omega), if_pos (by rw [bsl_size]; omega), bsl_bt l i hil]
    unfold strings_IndexByte.f
    rw [Option.bind_some, bsl_list]
    have u8 : (((l[i].toNat : Nat) : Int).toNat).toUInt8 = l[i] := by simp
    rw [u8]
    by_cases hq : Lib.indexByte set l[i] ≥ 0
    · rw [if_pos hq, if_pos (by rw [bsl_size]; omega)]
      have hp : nin set l[i] = false := decide_eq_false (by omega)
      obtain ⟨h1, h2⟩ := tw_drop1 (nin set) l i hil hp (fun j hj => hb j hj (by omega))
      rw [h1, h2, bsl_extract, bsl_extract, bsl_size, List.take_length, Int.toNat_natCast, List.drop_zero]
    · rw [if_neg hq, wr64 (by omega) (by omega), show ((i : Int) + 1) = ((i + 1 : Nat) : Int) by omega]
      refine ih (i + 1) k (by omega) (by omega) (by omega) (fun j hj hjl => ?_)
      rcases Nat.lt_or_ge j i with h | h
      · exact hb j h hjl
      · obtain rfl : j = i := by omega
        exact decide_eq_true (by omega)
theorem cut_f (l set : List UInt8) (hl : l.length ≤ 1000000000) (k : Nat) (hk : l.length < k) : locator_cut.f k (bsl l) (bsl set) = some (bsl (l.takeWhile (nin set)), bsl (l.dropWhile (nin set))) := by
  unfold locator_cut.f
  rw [bsl_size]
  have h := cut_loop l set hl l.length 0 k (by omega) (by omega) hk (fun j hj => by omega)
  simpa using h
/-- The parts of a reference. -/
structure Loc where
  scheme : List UInt8
  host : List UInt8
  path : List UInt8
  query : List UInt8
  frag : List UInt8
  hs : Bool
  hh : Bool
  hq : Bool
  hf : Bool
def cutA (set l : List UInt8) : List UInt8 := l.takeWhile (nin set)
def cutB (set l : List UInt8) : List UInt8 := l.dropWhile (nin set)
/-- Behind the host. -/
def split1 (l scheme host : List UInt8) (hs hh : Bool) : Loc :=
  if Lib.hasPrefix (cutB [63, 35] l) [63] = true then
    ⟨scheme, host, cutA [63, 35] l, cutA [35] (Lib.trimPrefix (cutB [63, 35] l) [63]), Lib.trimPrefix (cutB [35] (Lib.trimPrefix (cutB [63, 35] l) [63])) [35], hs, hh, true, Lib.hasPrefix (cutB [35] (Lib.trimPrefix (cutB [63, 35] l) [63])) [35]⟩
  else ⟨scheme, host, cutA [63, 35] l, [], Lib.trimPrefix (cutB [63, 35] l) [35], hs, hh, false, Lib.hasPrefix (cutB [63, 35] l) [35]⟩
def split0 (l scheme : List UInt8) (hs : Bool) : Loc :=
  if Lib.hasPrefix l [47, 47] = true then split1 (cutB [47, 63, 35] (Lib.trimPrefix l [47, 47])) scheme (cutA [47, 63, 35] (Lib.trimPrefix l [47, 47])) hs true
  else split1 l scheme [] hs false
def splitV (l : List UInt8) : Loc :=
  if Lib.hasPrefix (cutB [58, 47, 63, 35] l) [58] = true then split0 ((cutB [58, 47, 63, 35] l).drop 1) (cutA [58, 47, 63, 35] l) true
  else split0 l [] false
def Loc.tup (u : Loc) : ByteArray × ByteArray × ByteArray × ByteArray × ByteArray × Bool × Bool × Bool × Bool := (bsl u.scheme, bsl u.host, bsl u.path, bsl u.query, bsl u.frag, u.hs, u.hh, u.hq, u.hf)
theorem dw_len (p : UInt8 → Bool) (l : List UInt8) : (l.dropWhile p).length ≤ l.length := by
  have := congrArg List.length (List.takeWhile_append_dropWhile (p := p) (l := l))
  rw [List.length_append] at this
  omega
theorem tp_len (l s : List UInt8) : (Lib.trimPrefix l s).length ≤ l.length := by
  unfold Lib.trimPrefix
  split
  · simp
  · exact Nat.le_refl _
theorem cp_f (l s : List UInt8) : strings_CutPrefix.f (bsl l) (bsl s) = some (bsl (Lib.trimPrefix l s), Lib.hasPrefix l s) := by
  unfold strings_CutPrefix.f
  rw [bsl_list, bsl_list]
  rfl
theorem split1_f (l scheme host : List UInt8) (p0 f0 : ByteArray) (hs hh hf0 : Bool) (hl : l.length ≤ 1000000000) (k : Nat) (hk : l.length < k) :
    locator_split.j1 (k + 1) (bsl l) (bsl scheme) (bsl host) p0 (⟨#[]⟩ : ByteArray) f0 hs hh false hf0 = some (split1 l scheme host hs hh).tup := by
  have e0 : (⟨#[63, 35]⟩ : ByteArray) = bsl [63, 35] := rfl
  have e1 : (⟨#[63]⟩ : ByteArray) = bsl [63] := rfl
  have e2 : (⟨#[35]⟩ : ByteArray) = bsl [35] := rfl
  have e3 : (⟨#[]⟩ : ByteArray) = bsl [] := rfl
  have h1 := cut_f l [63, 35] hl k hk
  have hb := dw_len (nin [63, 35]) l
  have ht := tp_len (l.dropWhile (nin [63, 35])) [63]
  have h3 := cut_f (Lib.trimPrefix (l.dropWhile (nin [63, 35])) [63]) [35] (by omega) k (by omega)
  simp only [locator_split.j1]
  rw [e0, e1, e2, e3, h1, Option.bind_some]
  simp only [cp_f, Option.bind_some]
  unfold split1 cutA cutB
  by_cases hp : Lib.hasPrefix (l.dropWhile (nin [63, 35])) [63] = true
  · rw [if_pos hp, if_pos hp, h3, Option.bind_some]
    rfl
  · rw [if_neg hp, if_neg hp]
    rfl
theorem split0_f (l scheme : List UInt8) (h0 p0 f0 : ByteArray) (hh0 : h0 = ⟨#[]⟩) (hs hf0 : Bool) (hl : l.length ≤ 1000000000) (k : Nat) (hk : l.length < k) :
    locator_split.j0 (k + 2) (bsl l) (bsl scheme) h0 p0 (⟨#[]⟩ : ByteArray) f0 hs false false hf0 = some (split0 l scheme hs).tup := by
  subst hh0
  have e0 : (⟨#[47, 47]⟩ : ByteArray) = bsl [47, 47] := rfl
  have e1 : (⟨#[47, 63, 35]⟩ : ByteArray) = bsl [47, 63, 35] := rfl
  have e3 : (⟨#[]⟩ : ByteArray) = bsl [] := rfl
  have ht := tp_len l [47, 47]
  have hb := dw_len (nin [47, 63, 35]) (Lib.trimPrefix l [47, 47])
  have h1 := cut_f (Lib.trimPrefix l [47, 47]) [47, 63, 35] (by omega) (k + 1) (by omega)
  have h2 := split1_f ((Lib.trimPrefix l [47, 47]).dropWhile (nin [47, 63, 35])) scheme ((Lib.trimPrefix l [47, 47]).takeWhile (nin [47, 63, 35])) p0 f0 hs true hf0 (by omega) k (by omega)
  have h3 := split1_f l scheme [] p0 f0 hs false hf0 hl k hk
  simp only [locator_split.j0]
  rw [e0, e1, cp_f, Option.bind_some]
  unfold split0 cutA cutB
  by_cases hp : Lib.hasPrefix l [47, 47] = true
  · rw [if_pos hp, if_pos hp, h1, Option.bind_some]
    exact h2
  · rw [if_neg hp, if_neg hp]
    exact h3
theorem split_f (l : List UInt8) (hl : l.length ≤ 1000000000) (k : Nat) (hk : l.length < k) : locator_split.f (k + 2) (bsl l) = some (splitV l).tup := by
  have e0 : (⟨#[58, 47, 63, 35]⟩ : ByteArray) = bsl [58, 47, 63, 35] := rfl
  have e1 : (⟨#[58]⟩ : ByteArray) = bsl [58] := rfl
  have h1 := cut_f l [58, 47, 63, 35] hl (k + 2) (by omega)
  have hb := dw_len (nin [58, 47, 63, 35]) l
  have h2 := split0_f ((l.dropWhile (nin [58, 47, 63, 35])).drop 1) (l.takeWhile (nin [58, 47, 63, 35])) ⟨#[]⟩ ⟨#[]⟩ ⟨#[]⟩ rfl true false (by rw [List.length_drop]; omega) k (by rw [List.length_drop]; omega)
  have h3 := split0_f l [] ⟨#[]⟩ ⟨#[]⟩ ⟨#[]⟩ rfl false false hl k hk
  unfold locator_split.f
  rw [e0, e1, h1, Option.bind_some]
  unfold strings_HasPrefix.f
  rw [Option.bind_some, bsl_list, bsl_list]
  unfold splitV cutA cutB
  by_cases hp : Lib.hasPrefix (l.dropWhile (nin [58, 47, 63, 35])) [58] = true
  · have hlen : 1 ≤ (l.dropWhile (nin [58, 47, 63, 35])).length := by
      cases hd : l.dropWhile (nin [58, 47, 63, 35]) with
      | nil => rw [hd] at hp; simp [Lib.hasPrefix] at hp
      | cons c r => simp
    rw [if_pos hp, if_pos hp, if_pos (by rw [bsl_size]; omega), bsl_extract, bsl_size, List.take_length]
    exact h2
  · rw [if_neg hp, if_neg hp]
    exact h3
end Go.Proofs.YtcplaafmelcndaaGreatDoor.At
end
section
/- What the printed functions below atom.Check compute, in plain words: references. -/
set_option linter.unusedVariables false
set_option linter.unusedSimpArgs false
set_option maxRecDepth 20000
namespace Go.Proofs.YtcplaafmelcndaaGreatDoor.At
open Go.RowKit Go.Lib Go.Proofs.YtcplaafmelcndaaGreatDoor.Pr Go.Proofs.YtcplaafmelcndaaGreatDoorW.PrintWords
def hexL : List UInt8 := [48, 49, 50, 51, 52, 53, 54, 55, 56, 57, 97, 98, 99, 100, 101, 102, 65, 66, 67, 68, 69, 70]
def hexC (c : UInt8) : Bool := hexL.contains c
def hexV : List UInt8 → Bool
  | a :: b :: _ => hexC a && hexC b
  | _ => false
theorem trim2 (a b : UInt8) (cs : List UInt8) : (Lib.trimS [a, b] cs == []) = (cs.contains a && cs.contains b) := by
  unfold Lib.trimS Lib.trimLeftS Lib.trimRightS
  cases ha : cs.contains a <;> cases hb : cs.contains b <;> simp [List.dropWhile_cons, ha, hb] <;> simp_all
theorem hex_f (l : List UInt8) (hl : l.length ≤ 1000000000) : locator_hex.f (bsl l) = some (hexV l) := by
  unfold locator_hex.f
  rw [bsl_size]
  match l, hl with
  | [], _ => simp [hexV]
  | [a], _ => simp [hexV]
  | a :: b :: r, hl =>
    rw [if_pos (by simp; omega), if_pos (by decide), if_pos (by simp; omega), bsl_extract]
    unfold strings_Trim.f
    rw [if_pos ⟨by rw [bsl_size]; simp, by decide, by decide⟩, Option.bind_some, bsl_list]
    have : (⟨(Lib.trimS [a, b] hexL).toArray⟩ : ByteArray).toList = Lib.trimS [a, b] hexL := bsl_toList _
    show some ((⟨(Lib.trimS [a, b] hexL).toArray⟩ : ByteArray).toList == []) = _
    rw [this, trim2]
    rfl
theorem letter_f (c : UInt8) : locator_letter.f ((c.toNat : Nat) : Int) = some (alphaB c) := by
  unfold locator_letter.f
  rw [show Go.bits .or .u8 ((c.toNat : Nat) : Int) 32 = (((c ||| 32).toNat : Nat) : Int) from or32 c, ← alpha_or c]
  split
  · next h => rw [decide_eq_true (show (97 : Int) ≤ _ from h)]; rfl
  · next h => rw [decide_eq_false (show ¬ (97 : Int) ≤ _ from h)]; rfl
theorem digit_f (c : UInt8) : locator_digit.f ((c.toNat : Nat) : Int) = some (digB c) := by
  unfold locator_digit.f digB
  split
  · next h => rw [decide_eq_true (show 48 ≤ c.toNat by omega), Bool.true_and]; congr 1; apply decide_eq_decide.2; omega
  · next h => rw [decide_eq_false (show ¬ 48 ≤ c.toNat by omega), Bool.false_and]
def signC (more : List UInt8) (c : UInt8) : Bool := alphaB c || (digB c || (decide (127 < c.toNat) || decide (0 ≤ Lib.indexByte more c)))
def signsGo (more : List UInt8) : List UInt8 → Bool
  | [] => true
  | c :: l => if signC more c = true then signsGo more l else if c.toNat = 37 then
      (match l with
      | a :: b :: l' => if (hexC a && hexC b) = true then signsGo more l' else false
      | _ => false) else false
theorem signs_one (l more : List UInt8) (i : Nat) (h : i < l.length) (hl : l.length ≤ 1000000000) (k : Nat) : locator_signs.l0 (k + 1) (bsl l) (bsl more) (i : Int) = locator_signs.j1 k (bsl l) (bsl more) (i : Int) ((l[i].toNat : Nat) : Int) (signC more l[i]) := by
  simp only [locator_signs.l0]
  rw [if_pos (by rw [bsl_size]; omega), if_pos (by omega), bsl_bt l i h, letter_f, Option.bind_some, digit_f, Option.bind_some]
  unfold signC
  cases h1 : alphaB l[i]
  · rw [if_neg (by decide)]
    cases h2 : digB l[i]
    · rw [if_neg (by decide)]
      by_cases h3 : 127 < l[i].toNat
      · rw [if_pos (by omega), decide_eq_true (show ((l[i].toNat : Nat) : Int) > 127 by omega), decide_eq_true h3]
        rfl
      · rw [if_neg (by omega), decide_eq_false h3]
        unfold strings_IndexByte.f
        rw [Option.bind_some, bsl_list]
        have u8 : (((l[i].toNat : Nat) : Int).toNat).toUInt8 = l[i] := by simp
        rw [u8]
        rfl
    · rfl
  · rfl
theorem signs_loop (l more : List UInt8) (hl : l.length ≤ 1000000000) : ∀ (n i k : Nat), l.length - i ≤ n → i ≤ l.length → 2 * n + 2 ≤ k → locator_signs.l0 k (bsl l) (bsl more) (i : Int) = some (signsGo more (l.drop i)) := by
  intro n
  induction n using Nat.strongRecOn with
  | ind n ih =>
    intro i k hn hi hk
    obtain ⟨k, rfl⟩ : ∃ q, k = q + 2 := ⟨k - 2, by omega⟩
    by_cases h : i < l.length
    · rw [show k + 2 = (k + 1) + 1 by omega, signs_one l more i h hl, List.drop_eq_getElem_cons h]
      simp only [locator_signs.j1]
      unfold signsGo
      rw [wr64 (x := (i : Int) + 1) (by omega) (by omega), wr64 (x := (i : Int) + 2) (by omega) (by omega), wr64 (x := (i : Int) + 2 + 1) (by omega) (by omega)]
      cases hs : signC more l[i]
      · rw [if_neg (show ¬ (false = true) by decide), if_neg (show ¬ (false = true) by decide)]
        by_cases h37 : l[i].toNat = 37
        · rw [if_pos (by omega), if_pos h37, if_pos (by omega), if_pos (by rw [bsl_size]; omega), bsl_extract, bsl_size, List.take_length, show ((i : Int) + 1).toNat = i + 1 by omega, hex_f _ (by rw [List.length_drop]; omega), Option.bind_some]
          have hdd : l.drop (i + 3) = (l.drop (i + 1)).drop 2 := by rw [List.drop_drop]
          cases hd : l.drop (i + 1) with
          | nil => simp [hexV]
          | cons a r =>
            cases r with
            | nil => simp [hexV]
            | cons b r =>
              rw [hd] at hdd
              have hlen := congrArg List.length hd
              rw [List.length_drop] at hlen
              simp only [List.length_cons] at hlen
              have hv : hexV (a :: b :: r) = (hexC a && hexC b) := rfl
              rw [hv]
              by_cases hh : (hexC a && hexC b) = true
              · rw [if_pos hh]
                show _ = some (if (hexC a && hexC b) = true then signsGo more r else false)
                rw [if_pos hh]
                have := ih (n - 3) (by omega) (i + 3) k (by omega) (by omega) (by omega)
                rw [show ((i : Int) + 2 + 1) = ((i + 3 : Nat) : Int) by omega, this, hdd]
                rfl
              · rw [if_neg hh]
                show _ = some (if (hexC a && hexC b) = true then signsGo more r else false)
                rw [if_neg hh]
        · rw [if_neg (by omega), if_neg h37]
      · rw [if_pos (show (true = true) from rfl), if_pos (show (true = true) from rfl)]
        have := ih (n - 1) (by omega) (i + 1) k (by omega) (by omega) (by omega)
        rw [show ((i : Int) + 1) = ((i + 1 : Nat) : Int) by omega]
        exact this
    · simp only [locator_signs.l0]
      rw [if_neg (by rw [bsl_size]; omega), List.drop_of_length_le (by omega)]
      rfl
def moreL : List UInt8 := [45, 46, 95, 126, 33, 36, 38, 39, 40, 41, 42, 43, 44, 59, 61, 58, 64]
def signsV (more l : List UInt8) : Bool := signsGo (more ++ moreL) l
theorem signs_f (l more : List UInt8) (hl : l.length ≤ 1000000000) (hm : more.length ≤ 1000) (k : Nat) (hk : 2 * l.length + 2 ≤ k) : locator_signs.f k (bsl l) (bsl more) = some (signsV more l) := by
  unfold locator_signs.f
  rw [if_pos (by rw [bsl_size]; omega)]
  have : bsl more ++ (⟨#[45, 46, 95, 126, 33, 36, 38, 39, 40, 41, 42, 43, 44, 59, 61, 58, 64]⟩ : ByteArray) = bsl (more ++ moreL) := by
    unfold bsl moreL
    apply ByteArray.ext
    rw [ByteArray.data_append]
    simp
  rw [this]
  have h := signs_loop l (more ++ moreL) hl l.length 0 k (by omega) (by omega) (by omega)
  rw [List.drop_zero] at h
  exact h
/-- May a text be a reference's? -/
def locOk (l : List UInt8) : Bool := decide (checkV (bsl l) = 0) && (!(splitV l).hs || schemeV (bsl (splitV l).scheme)) && signsV [91, 93] (splitV l).host && signsV [47] (splitV l).path && signsV [47, 63] (splitV l).query && signsV [47, 63] (splitV l).frag
theorem cutA_len (set l : List UInt8) : (cutA set l).length ≤ l.length := by
  unfold cutA
  have := congrArg List.length (List.takeWhile_append_dropWhile (p := nin set) (l := l))
  rw [List.length_append] at this
  omega
theorem cutB_len (set l : List UInt8) : (cutB set l).length ≤ l.length := dw_len _ _
theorem split1_len (l s h : List UInt8) (hs hh : Bool) (n : Nat) (h1 : l.length ≤ n) (h2 : s.length ≤ n) (h3 : h.length ≤ n) : (split1 l s h hs hh).scheme.length ≤ n ∧ (split1 l s h hs hh).host.length ≤ n ∧ (split1 l s h hs hh).path.length ≤ n ∧ (split1 l s h hs hh).query.length ≤ n ∧ (split1 l s h hs hh).frag.length ≤ n := by
  have a1 := cutA_len [63, 35] l
  have a2 := cutB_len [63, 35] l
  have a3 := tp_len (cutB [63, 35] l) [63]
  have a4 := cutA_len [35] (Lib.trimPrefix (cutB [63, 35] l) [63])
  have a5 := cutB_len [35] (Lib.trimPrefix (cutB [63, 35] l) [63])
  have a6 := tp_len (cutB [35] (Lib.trimPrefix (cutB [63, 35] l) [63])) [35]
  have a7 := tp_len (cutB [63, 35] l) [35]
  unfold split1
  split
  · exact ⟨h2, h3, by simp only; omega, by simp only; omega, by simp only; omega⟩
  · exact ⟨h2, h3, by simp only; omega, by simp, by simp only; omega⟩
theorem split0_len (l s : List UInt8) (hs : Bool) (n : Nat) (h1 : l.length ≤ n) (h2 : s.length ≤ n) : (split0 l s hs).scheme.length ≤ n ∧ (split0 l s hs).host.length ≤ n ∧ (split0 l s hs).path.length ≤ n ∧ (split0 l s hs).query.length ≤ n ∧ (split0 l s hs).frag.length ≤ n := by
  have a1 := tp_len l [47, 47]
  have a2 := cutA_len [47, 63, 35] (Lib.trimPrefix l [47, 47])
  have a3 := cutB_len [47, 63, 35] (Lib.trimPrefix l [47, 47])
  unfold split0
  split
  · exact split1_len _ _ _ _ _ n (by omega) h2 (by omega)
  · exact split1_len _ _ _ _ _ n h1 h2 (by simp)
theorem splitV_len (l : List UInt8) : (splitV l).scheme.length ≤ l.length ∧ (splitV l).host.length ≤ l.length ∧ (splitV l).path.length ≤ l.length ∧ (splitV l).query.length ≤ l.length ∧ (splitV l).frag.length ≤ l.length := by
  have a1 := cutA_len [58, 47, 63, 35] l
  have a2 := cutB_len [58, 47, 63, 35] l
  unfold splitV
  split
  · exact split0_len _ _ _ _ (by rw [List.length_drop]; omega) a1
  · exact split0_len _ _ _ _ (Nat.le_refl _) (by simp)
def Loc.res (u : Loc) (ok : Bool) : ByteArray × ByteArray × ByteArray × ByteArray × ByteArray × Bool × Bool × Bool × Bool × Int := if ok = true then (bsl u.scheme, bsl u.host, bsl u.path, bsl u.query, bsl u.frag, u.hs, u.hh, u.hq, u.hf, 0) else (⟨#[]⟩, ⟨#[]⟩, ⟨#[]⟩, ⟨#[]⟩, ⟨#[]⟩, false, false, false, false, 120)
theorem parse_f (l : List UInt8) (hl : l.length ≤ 100000000) (k : Nat) (hk : 2 * l.length + 4 ≤ k) : locator_Parse.f k (bsl l) = some ((splitV l).res (locOk l)) := by
  obtain ⟨k', rfl⟩ : ∃ q, k = q + 2 := ⟨k - 2, by omega⟩
  obtain ⟨b1, b2, b3, b4, b5⟩ := splitV_len l
  have e1 : (⟨#[91, 93]⟩ : ByteArray) = bsl [91, 93] := rfl
  have e2 : (⟨#[47]⟩ : ByteArray) = bsl [47] := rfl
  have e3 : (⟨#[47, 63]⟩ : ByteArray) = bsl [47, 63] := rfl
  have s1 := signs_f (splitV l).host [91, 93] (by omega) (by decide) (k' + 2) (by omega)
  have s2 := signs_f (splitV l).path [47] (by omega) (by decide) (k' + 2) (by omega)
  have s3 := signs_f (splitV l).query [47, 63] (by omega) (by decide) (k' + 2) (by omega)
  have s4 := signs_f (splitV l).frag [47, 63] (by omega) (by decide) (k' + 2) (by omega)
  have sc : locator_scheme.f (bsl (splitV l).scheme) = some (schemeV (bsl (splitV l).scheme)) := by unfold locator_scheme.f; rw [if_pos (by rw [bsl_size]; omega)]
  have gc : glyph_Check.f (bsl l) = some (checkV (bsl l)) := by unfold glyph_Check.f; rw [if_pos (by rw [bsl_size]; omega)]
  unfold locator_Parse.f
  rw [split_f l (by omega) k' (by omega), Option.bind_some, gc, Option.bind_some]
  simp only [Loc.tup]
  rw [e1, e2, e3, sc, s1, s2, s3, s4]
  simp only [Option.bind_some]
  unfold Loc.res locOk
  by_cases h0 : checkV (bsl l) = 0
  · rw [if_pos h0, decide_eq_true h0]
    cases (splitV l).hs <;> cases schemeV (bsl (splitV l).scheme) <;> cases signsV [91, 93] (splitV l).host <;> cases signsV [47] (splitV l).path <;> cases signsV [47, 63] (splitV l).query <;> cases signsV [47, 63] (splitV l).frag <;> rfl
  · rw [if_neg h0, decide_eq_false h0]
    rfl
/-- atom.reference. -/
def refL (l : List UInt8) (whole : Bool) : Bool := !l.isEmpty && (locOk l && ((splitV l).hs || !whole))
def refV (s : ByteArray) (whole : Bool) : Bool := refL s.data.toList whole
theorem ref_f (s : ByteArray) (whole : Bool) (hs : s.size ≤ 9000000) (k : Nat) (hk : 18000004 ≤ k) : atom_reference.f k s whole = some (refV s whole) := by
  have hls : s.data.toList.length = s.size := by rw [Array.length_toList]; rfl
  rw [bsl_of s]
  unfold refV
  rw [bsl_list]
  generalize s.data.toList = l at hls
  unfold atom_reference.f
  rw [parse_f l (by omega) k (by omega), Option.bind_some, bsl_toList]
  unfold refL Loc.res
  cases l with
  | nil => rfl
  | cons c r =>
    rw [if_neg (by simp)]
    cases locOk (c :: r)
    · rfl
    · cases (splitV (c :: r)).hs <;> cases whole <;> rfl
/-- atom.address. -/
def adrV (s : ByteArray) : Bool :=
  if 0 ≤ Lib.indexByte s.data.toList 64 then
    !(s.extract 0 (Lib.indexByte s.data.toList 64).toNat).toList.isEmpty && (!(s.extract ((Lib.indexByte s.data.toList 64).toNat + 1) s.size).toList.isEmpty && !decide (0 ≤ Lib.indexByte (s.extract ((Lib.indexByte s.data.toList 64).toNat + 1) s.size).data.toList 64))
  else false
theorem adr_f (s : ByteArray) (hs : s.size ≤ 9000000) : atom_address.f s = some (adrV s) := by
  have hb : byte1 ⟨#[64]⟩ = some 64 := rfl
  unfold atom_address.f strings_Cut.f
  rw [if_pos (by omega), hb, Option.bind_some, Option.bind_some]
  unfold cutV adrV
  by_cases h : 0 ≤ Lib.indexByte s.data.toList 64
  · rw [if_pos h, if_pos h]
    simp only
    rw [if_pos trivial]
    unfold strings_Contains.f
    rw [hb, Option.bind_some, Option.bind_some]
    by_cases h1 : (s.extract 0 (Lib.indexByte s.data.toList 64).toNat).toList = []
    · rw [if_pos h1, h1]; rfl
    · rw [if_neg h1]
      have e1 : (s.extract 0 (Lib.indexByte s.data.toList 64).toNat).toList.isEmpty = false := by simpa using h1
      rw [e1]
      by_cases h2 : (s.extract ((Lib.indexByte s.data.toList 64).toNat + 1) s.size).toList = []
      · rw [if_pos h2, h2]; rfl
      · rw [if_neg h2]
        have e2 : (s.extract ((Lib.indexByte s.data.toList 64).toNat + 1) s.size).toList.isEmpty = false := by simpa using h2
        rw [e2]
        rfl
  · rw [if_neg h, if_neg h]
    rfl
theorem lower : Lower refV adrV where
  ref := fun s whole w hG hs => atom_reference.calls 18000004 s whole _ w hG (ref_f s whole hs 18000004 (Nat.le_refl _))
  adr := fun s w hs => atom_address.calls s _ w (adr_f s hs)
  trim := fun z w hK hS => pm_calls hK (fun A3 A4 c3 c4 g3 l3 g4 l4 => atom_Trimmed.calls 0 _ _ _ A3 c3 z.x.f3 A4 c4 z.x.f4 _ _ w g3 l3 g4 l4 (trim_f z.x hS 0))
end Go.Proofs.YtcplaafmelcndaaGreatDoor.At
end
section
/- What the printed functions below atom.Check compute, in plain words: the rules. -/
set_option linter.unusedVariables false
set_option linter.unusedSimpArgs false
set_option maxRecDepth 20000
namespace Go.Proofs.YtcplaafmelcndaaGreatDoor.At
open Go.RowKit Go.Lib Go.Proofs.YtcplaafmelcndaaGreatDoor.Pr Go.Proofs.YtcplaafmelcndaaGreatDoorW.PrintWords
def idV (x : S25) : Bool := plainV x.f4 && refV (trimV x.f4) true
def momentV (x : S25) : Bool := plainV x.f4 && (Txt.parseR (trimV x.f4)).2.2 == 0
def isMediaV (s : ByteArray) : Bool := (mediaV s).2.2.2 == 0
def hrefB : ByteArray := ⟨#[104, 114, 101, 102]⟩
def termB : ByteArray := ⟨#[116, 101, 114, 109]⟩
def srcB : ByteArray := ⟨#[115, 114, 99]⟩
def linkV (x : S25) : Bool := (attrV x.f3 hrefB).2 && (refV (attrV x.f3 hrefB).1 false && (!(attrV x.f3 typeB).2 || isMediaV (attrV x.f3 typeB).1))
def categoryV (x : S25) : Bool := (attrV x.f3 termB).2
def xhtmlB : ByteArray := ⟨#[104, 116, 116, 112, 58, 47, 47, 119, 119, 119, 46, 119, 51, 46, 111, 114, 103, 47, 49, 57, 57, 57, 47, 120, 104, 116, 109, 108]⟩
def divB : ByteArray := ⟨#[100, 105, 118]⟩
def blankV (s : ByteArray) : Bool := Lib.trimS s.data.toList [32, 9, 10, 13] == []
def divGo : Int → List S25 → Bool
  | n, [] => n == 1
  | n, x :: l => if isV x xhtmlB divB = true then divGo (n + 1) l else if x.f0 = 0 then false else if x.f0 = 1 then (if blankV x.f5 = true then divGo n l else false) else divGo n l
/-- Is a type told plainly? -/
def namedV (t : ByteArray) (typed : Bool) : Bool := !typed || (t.toList == [116, 101, 120, 116] || t.toList == [104, 116, 109, 108])
def constructV (x : S25) : Bool :=
  if namedV (attrV x.f3 typeB).1 (attrV x.f3 typeB).2 = true then plainV x.f4
  else if (attrV x.f3 typeB).1.toList = [120, 104, 116, 109, 108] then divGo 0 x.f4 else false
def named2V (t : ByteArray) (typed : Bool) : Bool := namedV t typed || t.toList == [120, 104, 116, 109, 108]
def contentV (x : S25) : Bool :=
  if (attrV x.f3 srcB).2 = true then
    refV (attrV x.f3 srcB).1 false && (decide (x.f4.length = 0) && (!(attrV x.f3 typeB).2 || (!named2V (attrV x.f3 typeB).1 (attrV x.f3 typeB).2 && isMediaV (attrV x.f3 typeB).1)))
  else if named2V (attrV x.f3 typeB).1 (attrV x.f3 typeB).2 = true then constructV x
  else if (mediaV (attrV x.f3 typeB).1).2.2.2 = 0 then !((mediaV (attrV x.f3 typeB).1).1.toList == [109, 117, 108, 116, 105, 112, 97, 114, 116]) && !((mediaV (attrV x.f3 typeB).1).1.toList == [109, 101, 115, 115, 97, 103, 101]) else false
theorem plain_f (x : S25) (hS : Sm x) (k : Nat) : atom_plain.f k x.f0 x.f1 x.f2 x.f3 x.f4 x.f5 = some (plainV x.f4) := by
  have := hS.len
  unfold atom_plain.f
  rw [if_pos (by omega)]
theorem id_f (x : S25) (hS : Sm x) (k : Nat) (hk : 18000004 ≤ k) : atom_id.f k x.f0 x.f1 x.f2 x.f3 x.f4 x.f5 = some (idV x) := by
  unfold atom_id.f
  rw [plain_f x hS k, Option.bind_some, trim_f x hS k, Option.bind_some, ref_f _ true (trimV_size hS) k hk, Option.bind_some]
  unfold idV
  cases plainV x.f4 <;> rfl
theorem moment_f (x : S25) (hS : Sm x) (k : Nat) : atom_moment.f k x.f0 x.f1 x.f2 x.f3 x.f4 x.f5 = some (momentV x) := by
  have h1 := trimV_size hS
  unfold atom_moment.f
  rw [plain_f x hS k, trim_f x hS k, Option.bind_some]
  unfold Txt.date_Parse.f
  rw [if_pos (by omega), Option.bind_some, Option.bind_some]
  unfold momentV
  cases plainV x.f4 <;> rfl
theorem isMedia_f (s : ByteArray) (hs : s.size ≤ 9000000) : atom_isMedia.f s = some (isMediaV s) := by
  unfold atom_isMedia.f media_Parse.f
  rw [if_pos (by omega)]
  rfl
theorem link_f (x : S25) (hS : Sm x) (k : Nat) (hk : 18000004 ≤ k) : atom_link.f k x.f0 x.f1 x.f2 x.f3 x.f4 x.f5 = some (linkV x) := by
  have h1 := attr_f x hS hrefB k (by omega)
  have h2 := attr_f x hS typeB k (by omega)
  have s1 := attrV_size x.f3 hrefB hS.attrs
  have s2 := attrV_size x.f3 typeB hS.attrs
  unfold hrefB at h1
  unfold typeB at h2
  unfold atom_link.f
  rw [h1, Option.bind_some, h2, Option.bind_some, show (⟨#[104, 114, 101, 102]⟩ : ByteArray) = hrefB from rfl, show (⟨#[116, 121, 112, 101]⟩ : ByteArray) = typeB from rfl, ref_f _ false (by omega) k hk, Option.bind_some, isMedia_f _ (by omega), Option.bind_some]
  unfold linkV
  cases (attrV x.f3 hrefB).2 <;> cases refV (attrV x.f3 hrefB).1 false <;> cases (attrV x.f3 typeB).2 <;> rfl
theorem category_f (x : S25) (hS : Sm x) (k : Nat) (hk : 4000 ≤ k) : atom_category.f k x.f0 x.f1 x.f2 x.f3 x.f4 x.f5 = some (categoryV x) := by
  have h1 := attr_f x hS termB k hk
  unfold termB at h1
  unfold atom_category.f
  rw [h1]
  rfl
theorem blank_f (s : ByteArray) (hs : s.size ≤ 9000000) : glyph_Blank.f s = some (blankV s) := by
  unfold glyph_Blank.f strings_Trim.f
  rw [if_pos ⟨by omega, by decide, by decide⟩, Option.bind_some]
  unfold blankV
  rw [show (⟨(Lib.trimS s.data.toList (⟨#[32, 9, 10, 13]⟩ : ByteArray).data.toList).toArray⟩ : ByteArray).toList = Lib.trimS s.data.toList [32, 9, 10, 13] from bsl_toList _]
theorem isP_f (x : S25) (space name : ByteArray) : atom_Is.f x.f0 x.f1 x.f2 x.f3 x.f4 x.f5 space name = some (isV x space name) := by
  unfold atom_Is.f isV
  split
  · next h0 =>
    rw [decide_eq_true h0]
    split
    · next h1 => rw [h1]; simp
    · next h1 => rw [beq_eq_false_iff_ne.2 h1]; rfl
  · next h0 => rw [decide_eq_false h0]; rfl
theorem div_loop (l : List S25) (hl : l.length ≤ 3000) (hS : ∀ y ∈ l, Sm y) : ∀ (d i k : Nat) (n : Int), l.length - i = d → i ≤ l.length → d < k → 0 ≤ n → n ≤ i → atom_div.l0 k n l (l.length : Int) (i : Int) = some (divGo n (l.drop i)) := by
  intro d
  induction d with
  | zero =>
    intro i k n hd hi hk h0 h1
    obtain ⟨k, rfl⟩ : ∃ q, k = q + 1 := ⟨k - 1, by omega⟩
    unfold atom_div.l0
    rw [if_neg (by omega), List.drop_of_length_le (by omega)]
    rfl
  | succ d ih =>
    intro i k n hd hi hk h0 h1
    obtain ⟨k, rfl⟩ : ∃ q, k = q + 1 := ⟨k - 1, by omega⟩
    have hil : i < l.length := by omega
    unfold atom_div.l0
    rw [if_pos (by omega), if_pos (by omega), if_pos (by omega), rd_at l i hil, isP_f, Option.bind_some, wr64 (x := n + 1) (by omega) (by omega), wr64 (x := (i : Int) + 1) (by omega) (by omega), blank_f _ (by have := (hS l[i] (List.getElem_mem hil)).data; omega), Option.bind_some, show ((i : Int) + 1) = ((i + 1 : Nat) : Int) by omega, ih (i + 1) k (n + 1) (by omega) (by omega) (by omega) (by omega) (by omega), ih (i + 1) k n (by omega) (by omega) (by omega) (by omega) (by omega), List.drop_eq_getElem_cons hil]
    conv => rhs; unfold divGo
    show (if isV l[i] xhtmlB divB = true then _ else _) = _
    split
    · rfl
    · split
      · rfl
      · split
        · split <;> rfl
        · rfl
theorem div_f (x : S25) (hS : Sm x) (k : Nat) (hk : 4000 ≤ k) : atom_div.f k x.f0 x.f1 x.f2 x.f3 x.f4 x.f5 = some (divGo 0 x.f4) := by
  have := hS.len
  unfold atom_div.f
  have h := div_loop x.f4 (by omega) hS.kids x.f4.length 0 k 0 (by omega) (by omega) (by omega) (by omega) (by omega)
  rw [List.drop_zero] at h
  exact h
theorem construct_f (x : S25) (hS : Sm x) (k : Nat) (hk : 5000 ≤ k) : atom_construct.f k x.f0 x.f1 x.f2 x.f3 x.f4 x.f5 = some (constructV x) := by
  obtain ⟨k, rfl⟩ : ∃ q, k = q + 1 := ⟨k - 1, by omega⟩
  have h2 := attr_f x hS typeB (k + 1) (by omega)
  unfold typeB at h2
  unfold atom_construct.f
  rw [h2, Option.bind_some, show (⟨#[116, 121, 112, 101]⟩ : ByteArray) = typeB from rfl]
  unfold constructV namedV
  simp only [atom_construct.j0]
  rw [plain_f x hS k, div_f x hS k (by omega)]
  simp only [Option.bind_some]
  generalize (attrV x.f3 typeB).1.toList = t
  cases (attrV x.f3 typeB).2
  · rfl
  · by_cases h1 : t = [116, 101, 120, 116]
    · subst h1; rfl
    · rw [if_pos rfl, if_neg h1]
      by_cases h3 : t = [104, 116, 109, 108]
      · subst h3; rfl
      · have e1 : (t == [116, 101, 120, 116]) = false := by simp [h1]
        have e3 : (t == [104, 116, 109, 108]) = false := by simp [h3]
        rw [e1, e3]
        show (if false = true then _ else if t = [120, 104, 116, 109, 108] then _ else _) = some (if false = true then _ else if t = [120, 104, 116, 109, 108] then _ else _)
        rw [if_neg (by decide), if_neg (show ¬ (false = true) by decide)]
        split <;> rfl
theorem content_f (x : S25) (hS : Sm x) (k : Nat) (hk : 19000000 ≤ k) : atom_content.f k x.f0 x.f1 x.f2 x.f3 x.f4 x.f5 = some (contentV x) := by
  obtain ⟨k, rfl⟩ : ∃ q, k = q + 1 := ⟨k - 1, by omega⟩
  have h1 := attr_f x hS srcB k (by omega)
  have h2 := attr_f x hS typeB (k + 1) (by omega)
  have s1 := attrV_size x.f3 srcB hS.attrs
  have s2 := attrV_size x.f3 typeB hS.attrs
  have hj : ∀ b : Bool, atom_content.j0 (k + 1) (attrV x.f3 typeB).1 (attrV x.f3 typeB).2 b x.f0 x.f1 x.f2 x.f3 x.f4 x.f5 = some (if (attrV x.f3 srcB).2 = true then
    refV (attrV x.f3 srcB).1 false && (decide (x.f4.length = 0) && (!(attrV x.f3 typeB).2 || (!b && isMediaV (attrV x.f3 typeB).1)))
  else if b = true then constructV x
  else if (mediaV (attrV x.f3 typeB).1).2.2.2 = 0 then !((mediaV (attrV x.f3 typeB).1).1.toList == [109, 117, 108, 116, 105, 112, 97, 114, 116]) && !((mediaV (attrV x.f3 typeB).1).1.toList == [109, 101, 115, 115, 97, 103, 101]) else false) := by
    intro b
    unfold srcB at h1
    simp only [atom_content.j0]
    rw [h1, Option.bind_some, show (⟨#[115, 114, 99]⟩ : ByteArray) = srcB from rfl, ref_f _ false (by omega) k (by omega), Option.bind_some, isMedia_f _ (by omega), Option.bind_some, construct_f x hS k (by omega), Option.bind_some]
    have hm : media_Parse.f (attrV x.f3 typeB).1 = some (mediaV (attrV x.f3 typeB).1) := by unfold media_Parse.f; rw [if_pos (by omega)]
    rw [hm, Option.bind_some]
    cases (attrV x.f3 srcB).2
    · rw [if_neg (by decide)]
      show _ = some (if b = true then _ else _)
      cases b
      · rw [if_neg (show ¬ (false = true) by decide), if_neg (show ¬ (false = true) by decide)]
        by_cases h0 : (mediaV (attrV x.f3 typeB).1).2.2.2 = 0
        · rw [if_pos h0, if_pos h0]
          by_cases h3 : (mediaV (attrV x.f3 typeB).1).1.toList = [109, 117, 108, 116, 105, 112, 97, 114, 116]
          · rw [if_pos h3, h3]; rfl
          · rw [if_neg h3]
            have e : ((mediaV (attrV x.f3 typeB).1).1.toList == [109, 117, 108, 116, 105, 112, 97, 114, 116]) = false := by simp [h3]
            rw [e]
            rfl
        · rw [if_neg h0, if_neg h0]
      · rfl
    · rw [if_pos rfl]
      show _ = some (refV (attrV x.f3 srcB).1 false && (decide (x.f4.length = 0) && (!(attrV x.f3 typeB).2 || (!b && isMediaV (attrV x.f3 typeB).1))))
      cases refV (attrV x.f3 srcB).1 false
      · rfl
      · rw [if_pos rfl]
        by_cases h0 : x.f4.length = 0
        · rw [if_pos (by omega), decide_eq_true h0]
          cases (attrV x.f3 typeB).2 <;> cases b <;> rfl
        · rw [if_neg (by omega), decide_eq_false h0]
          rfl
  unfold typeB at h2
  unfold atom_content.f
  rw [h2, Option.bind_some, show (⟨#[116, 121, 112, 101]⟩ : ByteArray) = typeB from rfl]
  simp only [hj]
  unfold contentV named2V namedV
  generalize (attrV x.f3 typeB).1.toList = t
  cases (attrV x.f3 typeB).2
  · rfl
  · by_cases h3 : t = [116, 101, 120, 116]
    · subst h3; rfl
    · rw [if_pos rfl, if_neg h3]
      by_cases h4 : t = [104, 116, 109, 108]
      · subst h4; rfl
      · rw [if_neg h4]
        have e1 : (t == [116, 101, 120, 116]) = false := by simp [h3]
        have e3 : (t == [104, 116, 109, 108]) = false := by simp [h4]
        rw [e1, e3]
        rfl
end Go.Proofs.YtcplaafmelcndaaGreatDoor.At
end
section
/- atom.Check, in given form: what it answers, in plain words. -/
set_option linter.unusedVariables false
set_option linter.unusedSimpArgs false
set_option maxRecDepth 20000
namespace Go.Proofs.YtcplaafmelcndaaGreatDoor.At
open Go.RowKit Go.Lib Go.Proofs.YtcplaafmelcndaaGreatDoor.Pr Go.Proofs.YtcplaafmelcndaaGreatDoorW.PrintWords
def testsV : Tests := ⟨personV refV adrV, momentV, constructV, idV, linkV, categoryV, contentV⟩
theorem rightsV : Rights testsV where
  person := ⟨fun _ _ => rfl, fun z w hG hK hS => person_any lower z w hG hK hS⟩
  moment := ⟨fun _ _ => rfl, fun z w hG hK hS => pm_calls hK (fun A3 A4 c3 c4 g3 l3 g4 l4 => atom_moment.calls 0 _ _ _ A3 c3 z.x.f3 A4 c4 z.x.f4 _ _ w g3 l3 g4 l4 (moment_f z.x hS 0))⟩
  construct := ⟨fun _ _ => rfl, fun z w hG hK hS => pm_calls hK (fun A3 A4 c3 c4 g3 l3 g4 l4 => atom_construct.calls 5000 _ _ _ A3 c3 z.x.f3 A4 c4 z.x.f4 _ _ w g3 l3 g4 l4 (construct_f z.x hS 5000 (Nat.le_refl _)))⟩
  id := ⟨fun _ _ => rfl, fun z w hG hK hS => pm_calls hK (fun A3 A4 c3 c4 g3 l3 g4 l4 => atom_id.calls 18000004 _ _ _ A3 c3 z.x.f3 A4 c4 z.x.f4 _ _ w hG g3 l3 g4 l4 (id_f z.x hS 18000004 (Nat.le_refl _)))⟩
  link := ⟨fun _ _ => rfl, fun z w hG hK hS => pm_calls hK (fun A3 A4 c3 c4 g3 l3 g4 l4 => atom_link.calls 18000004 _ _ _ A3 c3 z.x.f3 A4 c4 z.x.f4 _ _ w hG g3 l3 g4 l4 (link_f z.x hS 18000004 (Nat.le_refl _)))⟩
  category := ⟨fun _ _ => rfl, fun z w hG hK hS => pm_calls hK (fun A3 A4 c3 c4 g3 l3 g4 l4 => atom_category.calls 4000 _ _ _ A3 c3 z.x.f3 A4 c4 z.x.f4 _ _ w g3 l3 g4 l4 (category_f z.x hS 4000 (Nat.le_refl _)))⟩
  content := ⟨fun _ _ => rfl, fun z w hG hK hS => pm_calls hK (fun A3 A4 c3 c4 g3 l3 g4 l4 => atom_content.calls 19000000 _ _ _ A3 c3 z.x.f3 A4 c4 z.x.f4 _ _ w hG g3 l3 g4 l4 (content_f z.x hS 19000000 (Nat.le_refl _)))⟩
/-- What atom.Check answers of a node. -/
def checkX (x : S25) (stored : Bool) : Int := checkN testsV x stored
theorem check_pm (z : Pm) (stored : Bool) (w : World) (hG : LaidW w) (hK : k25.K w z.x z.c.enc) (hS : Sm z.x) :
    Calls Tryz.prog 10 #[.agg z.c.enc.toArray, .bool stored] w fun e w' => e = .returned (.int .i64 (checkX z.x stored)) ∧ Below w.heap.size w w' := check_atom rightsV lowerV z stored w hG hK hS
end Go.Proofs.YtcplaafmelcndaaGreatDoor.At
end
section
/- What atom.Check answers of the small entries of the law's awake. -/
set_option linter.unusedVariables false
set_option linter.unusedSimpArgs false
set_option maxRecDepth 20000
namespace Go.Proofs.YtcplaafmelcndaaGreatDoor.At
open Go.RowKit Go.Lib Go.Proofs.YtcplaafmelcndaaGreatDoor.Pr
def titleY : S25 := ⟨0, atomB, ⟨#[116, 105, 116, 108, 101]⟩, [], [⟨1, ⟨#[]⟩, ⟨#[]⟩, [], [], ⟨#[121]⟩⟩], ⟨#[]⟩⟩
/-- Two titles. -/
def twoN : S25 := ⟨0, atomB, entryB, [], (plainN ⟨#[120]⟩).f4 ++ [titleY], ⟨#[]⟩⟩
theorem isV_eq (x : S25) (space name : ByteArray) : isV x space name = (decide (x.f0 = 0) && (x.f1.data.toList == space.data.toList) && (x.f2.data.toList == name.data.toList)) := by
  unfold isV
  simp only [ByteArray.toList_eq]
theorem fit_none {l : List S25} {name : ByteArray} {g : Nat} {most : Int} {p : S25 → Bool} (hm : allV l name = []) (h : 0 ≤ most) : Rul.fits ⟨name, g, 0, most, p⟩ l = true := by
  unfold Rul.fits fitsV
  rw [hm]
  simp [h]
theorem fit_one {l : List S25} {name : ByteArray} {g : Nat} {most : Int} {p : S25 → Bool} {x : S25} (hm : allV l name = [x]) (h : 1 ≤ most) (hp : p x = true) : Rul.fits ⟨name, g, 1, most, p⟩ l = true := by
  unfold Rul.fits fitsV
  rw [hm]
  simp [h, hp]
abbrev px : S25 := plainN ⟨#[120]⟩
theorem check1 : checkX px false = 0 := by
  unfold checkX checkN
  have e1 : isV px atomB entryB = true := by rw [isV_eq]; decide
  have e2 : variantsV (allV px.f4 linkB) = true := by
    have : allV px.f4 linkB = [] := by unfold allV; simp only [isV_eq]; rfl
    rw [this]; rfl
  rw [if_pos]
  rw [e1, e2]
  simp only [rulesL, List.all_cons, List.all_nil, Bool.and_true, Bool.and_eq_true, Bool.true_and, Bool.false_eq_true, if_false]
  refine ⟨?_, ?_, ?_, ?_, ?_, ?_, ?_, ?_, ?_, ?_, ?_⟩
  · refine fit_one (x := ⟨0, atomB, ⟨#[97, 117, 116, 104, 111, 114]⟩, [], [⟨0, atomB, nameB, [], [⟨1, ⟨#[]⟩, ⟨#[]⟩, [], [], ⟨#[65]⟩⟩], ⟨#[]⟩⟩], ⟨#[]⟩⟩) (by unfold allV; simp only [isV_eq]; rfl) (by decide) ?_
    show personV refV adrV _ = true
    unfold personV fieldV
    have a1 : ∀ name : ByteArray, name.data.toList ≠ nameB.data.toList → allV [⟨0, atomB, nameB, [], [⟨1, ⟨#[]⟩, ⟨#[]⟩, [], [], ⟨#[65]⟩⟩], ⟨#[]⟩⟩] name = [] := by
      intro name h
      unfold allV
      rw [List.filter_cons, if_neg]
      · rfl
      · rw [isV_eq]
        have h2 : (nameB.data.toList == name.data.toList) = false := beq_eq_false_iff_ne.mpr (Ne.symm h)
        simp only [h2, Bool.and_false, Bool.false_eq_true, not_false_eq_true]
    have a2 : allV [⟨0, atomB, nameB, [], [⟨1, ⟨#[]⟩, ⟨#[]⟩, [], [], ⟨#[65]⟩⟩], ⟨#[]⟩⟩] nameB = [⟨0, atomB, nameB, [], [⟨1, ⟨#[]⟩, ⟨#[]⟩, [], [], ⟨#[65]⟩⟩], ⟨#[]⟩⟩] := by
      unfold allV
      simp only [isV_eq]
      rfl
    simp only [a2, a1 uriB (by decide), a1 emailB (by decide)]
    have a3 : nonB (trimV [⟨1, ⟨#[]⟩, ⟨#[]⟩, [], [], ⟨#[65]⟩⟩]) = true := by
      unfold nonB trimV
      rw [ByteArray.toList_eq]
      decide
    rw [a3]
    rfl
  · exact fit_none (by unfold allV; simp only [isV_eq]; rfl) (by decide)
  · exact fit_none (by unfold allV; simp only [isV_eq]; rfl) (by decide)
  · exact fit_none (by unfold allV; simp only [isV_eq]; rfl) (by decide)
  · refine fit_one (x := ⟨0, atomB, ⟨#[116, 105, 116, 108, 101]⟩, [], [⟨1, ⟨#[]⟩, ⟨#[]⟩, [], [], ⟨#[120]⟩⟩], ⟨#[]⟩⟩) (by unfold allV; simp only [isV_eq]; rfl) (by decide) ?_
    show constructV ⟨0, atomB, ⟨#[116, 105, 116, 108, 101]⟩, [], [⟨1, ⟨#[]⟩, ⟨#[]⟩, [], [], ⟨#[120]⟩⟩], ⟨#[]⟩⟩ = true
    unfold constructV
    rfl
  · exact fit_none (by unfold allV; simp only [isV_eq]; rfl) (by decide)
  · exact fit_none (by unfold allV; simp only [isV_eq]; rfl) (by decide)
  · exact fit_none (by unfold allV; simp only [isV_eq]; rfl) (by decide)
  · exact fit_none (by unfold allV; simp only [isV_eq]; rfl) (by decide)
  · exact fit_none (by unfold allV; simp only [isV_eq]; rfl) (by decide)
  · exact fit_none (by unfold allV; simp only [isV_eq]; rfl) (by decide)
theorem check_no (x : S25) (stored : Bool) (r : Rul) (hr : r ∈ rulesL testsV (if stored = true then 1 else 0)) (hf : r.fits x.f4 = false) : checkX x stored = 150 := by
  unfold checkX checkN
  rw [if_neg]
  intro h
  rw [Bool.and_eq_true] at h
  have := List.all_eq_true.1 h.2 r hr
  rw [hf] at this
  cases this
theorem check2 : checkX px true = 150 := by
  refine check_no px true ⟨⟨#[117, 112, 100, 97, 116, 101, 100]⟩, 18, 1, 1, testsV.moment⟩ ?_ ?_
  · simp only [rulesL, if_true]
    exact List.mem_cons_of_mem _ (List.mem_cons_of_mem _ (List.mem_cons_self ..))
  · unfold Rul.fits fitsV
    have : allV px.f4 ⟨#[117, 112, 100, 97, 116, 101, 100]⟩ = [] := by unfold allV; simp only [isV_eq]; rfl
    rw [this]
    rfl
theorem check3 : checkX twoN false = 150 := by
  refine check_no twoN false ⟨⟨#[116, 105, 116, 108, 101]⟩, 19, 1, 1, testsV.construct⟩ ?_ ?_
  · simp only [rulesL]
    exact List.mem_cons_of_mem _ (List.mem_cons_of_mem _ (List.mem_cons_of_mem _ (List.mem_cons_of_mem _ (List.mem_cons_self ..))))
  · unfold Rul.fits fitsV
    have : allV twoN.f4 ⟨#[116, 105, 116, 108, 101]⟩ = [⟨0, atomB, ⟨#[116, 105, 116, 108, 101]⟩, [], [⟨1, ⟨#[]⟩, ⟨#[]⟩, [], [], ⟨#[120]⟩⟩], ⟨#[]⟩⟩, titleY] := by unfold allV; simp only [isV_eq]; rfl
    rw [this]
    rfl
/-- atom.Check of a node by its cells. -/
theorem check_node (x : S25) (A3 : Option Addr) (n3 c3 : Nat) (A4 : Option Addr) (n4 c4 : Nat) (stored : Bool) (r : Int) (hr : checkX x stored = r) (w : World) (hG : LaidW w) (hK : k25.K w x [.int .i64 x.f0, .string x.f1, .string x.f2, .slice A3 n3 c3, .slice A4 n4 c4, .string x.f5]) (hS : Sm x) :
    Calls Tryz.prog 10 #[.agg #[.int .i64 x.f0, .string x.f1, .string x.f2, .slice A3 n3 c3, .slice A4 n4 c4, .string x.f5], .bool stored] w fun e w' => e = .returned (.int .i64 r) ∧ Below w.heap.size w w' := by
  obtain ⟨B3, d3, B4, d4, e, _⟩ := k25_open hK
  simp only [List.cons.injEq, Value.slice.injEq, and_true, true_and] at e
  obtain ⟨⟨rfl, rfl, rfl⟩, rfl, rfl, rfl⟩ := e
  subst hr
  exact check_pm ⟨x, ⟨x.f0, x.f1, x.f2, A3, x.f3.length, c3, A4, x.f4.length, c4, x.f5⟩, rfl, rfl, rfl, rfl, rfl, rfl⟩ stored w hG hK hS
end Go.Proofs.YtcplaafmelcndaaGreatDoor.At
end
section
/- The law's awake, by hand: it answers true. Printed by wip/A15/genawk.py. -/
set_option linter.unusedVariables false
set_option linter.unusedSimpArgs false
set_option maxRecDepth 20000
namespace Go.Proofs.YtcplaafmelcndaaGreatDoor.At
open Go.RowKit Go.Lib Go.Proofs.YtcplaafmelcndaaGreatDoor.Pr Go.Proofs.YtcplaafmelcndaaGreatDoorW.PrintWords Go.Proofs.YtcplaafmelcndaaGreatDoorW.PrintLast Go.Proofs.YtcplaafmelcndaaGreatDoorW.PrintMore
theorem nb_start {w w2 w3 : World} {g : Nat} {x : S25} {A : Option Addr} {n c : Nat} (hb2 : Below w.heap.size w w2) (h4 : Kd.N k25 25 w2 w.heap.size (fun k => w.heap.size ≤ k) (.slice A n c) x.f4) (hx : x.f3 = []) {u0 u1 u2 u3 u4 u5 : Value} (b : w3.heap[g]? = some (.cells #[u0, u1, u2, u3, u4, u5] 25 (0, 0))) (hg : g = w2.heap.size) (hb3 : Below w2.heap.size w2 w3) :
    Below w.heap.size w ((((((w3.setCell ⟨g, 0, none⟩ (.int .i64 x.f0)).setCell ⟨g, 1, none⟩ (.string x.f1)).setCell ⟨g, 2, none⟩ (.string x.f2)).setCell ⟨g, 3, none⟩ (.slice none 0 0)).setCell ⟨g, 4, none⟩ (.slice A n c)).setCell ⟨g, 5, none⟩ (.string x.f5)) ∧ ((((((w3.setCell ⟨g, 0, none⟩ (.int .i64 x.f0)).setCell ⟨g, 1, none⟩ (.string x.f1)).setCell ⟨g, 2, none⟩ (.string x.f2)).setCell ⟨g, 3, none⟩ (.slice none 0 0)).setCell ⟨g, 4, none⟩ (.slice A n c)).setCell ⟨g, 5, none⟩ (.string x.f5)).heap[g]? = some (.cells #[.int .i64 x.f0, .string x.f1, .string x.f2, .slice none 0 0, .slice A n c, .string x.f5] 25 (0, 0)) ∧ k25.K ((((((w3.setCell ⟨g, 0, none⟩ (.int .i64 x.f0)).setCell ⟨g, 1, none⟩ (.string x.f1)).setCell ⟨g, 2, none⟩ (.string x.f2)).setCell ⟨g, 3, none⟩ (.slice none 0 0)).setCell ⟨g, 4, none⟩ (.slice A n c)).setCell ⟨g, 5, none⟩ (.string x.f5)) x [.int .i64 x.f0, .string x.f1, .string x.f2, .slice none 0 0, .slice A n c, .string x.f5] := by
  have z2 := hb2.size
  have hge : w.heap.size ≤ g := by omega
  have r4 : Kd.N k25 25 w3 w.heap.size (fun k => w.heap.size ≤ k ∧ k ≠ g) (.slice A n c) x.f4 := Kd.N_below (Kd.N_mono (Kd.N_bound h4) (fun k hk => ⟨hk.1, by have := hk.2; omega⟩)) hb3
  refine ⟨(below_set (below_set (below_set (below_set (below_set (below_set (hb2.trans (hb3.mono z2)) hge) hge) hge) hge) hge) hge), (blk_put (blk_put (blk_put (blk_put (blk_put (blk_put b 0 _ rfl) 1 _ rfl) 2 _ rfl) 3 _ rfl) 4 _ rfl) 5 _ rfl), ?_⟩
  have k4 := (Kd.N_far (p := ⟨g, 5, none⟩) (Kd.N_far (p := ⟨g, 4, none⟩) (Kd.N_far (p := ⟨g, 3, none⟩) (Kd.N_far (p := ⟨g, 2, none⟩) (Kd.N_far (p := ⟨g, 1, none⟩) (Kd.N_far (p := ⟨g, 0, none⟩) r4 (fun _ hk => hk.2) (.int .i64 x.f0)) (fun _ hk => hk.2) (.string x.f1)) (fun _ hk => hk.2) (.string x.f2)) (fun _ hk => hk.2) (.slice none 0 0)) (fun _ hk => hk.2) (.slice A n c)) (fun _ hk => hk.2) (.string x.f5))
  obtain ⟨l4, e4, f4⟩ := Kd.N_reads' k4
  subst l4
  have e : x.f3.length = 0 := by rw [hx]; rfl
  have := k25_mk _ x (c3 := 0) (A3 := none) (by rw [hx]; exact Nat.le_refl _) (by rw [hx]; exact Kd.C_nil _ _) e4 f4
  rw [e] at this
  exact this
theorem px_sm : Sm px := (plain_ksm ⟨#[120]⟩ (by decide)).sm (by decide)
theorem check_px (A : Option Addr) (n c : Nat) (stored : Bool) (r : Int) (hr : checkX px stored = r) (w : World) (hG : LaidW w) (hK : k25.K w px [.int .i64 0, .string atomB, .string entryB, .slice none 0 0, .slice A n c, .string ⟨#[]⟩]) :
    Calls Tryz.prog 10 #[.agg #[.int .i64 0, .string atomB, .string entryB, .slice none 0 0, .slice A n c, .string ⟨#[]⟩], .bool stored] w fun e w' => e = .returned (.int .i64 r) ∧ Below w.heap.size w w' := check_node px none 0 0 A n c stored r hr w hG hK px_sm
theorem text_el (name text r : ByteArray) (A : Option Addr) (n c : Nat) {lo : Nat} {ok : Nat → Prop} (w : World) (h : Kd.N k25 25 w lo ok (.slice A n c) (elK text)) (ht : text.size ≤ 3000) (hr : (⟨(textL (elK text)).toArray⟩ : ByteArray) = r) :
    Calls Tryz.prog 12 #[.agg #[.int .i64 0, .string atomB, .string name, .slice none 0 0, .slice A n c, .string ⟨#[]⟩]] w fun e w' => e = .returned (.string r) ∧ Below w.heap.size w w' := by
  obtain ⟨rfl, hc, hC⟩ := Kd.N_reads' h
  have h1 := textL_len (elK text) (fun y hy => (elK_sm text ht y hy).data)
  have h2 := elK_len text
  exact atom_Text.calls 0 0 atomB name none 0 [] A c (elK text) ⟨#[]⟩ r w (Kd.C_nil _ _) (Nat.le_refl _) hC hc (by unfold atom_Text.f; rw [if_pos ⟨by omega, by omega⟩, hr])
theorem text_xy : (⟨(textL (elK ⟨#[120, 121]⟩)).toArray⟩ : ByteArray) = ⟨#[120, 121]⟩ := by
  unfold elK
  rw [if_neg (by rw [ByteArray.toList_eq]; decide)]
  simp [textL]
set_option maxHeartbeats 4000000 in
theorem awake_e (w : World) (hG : LaidW w) : Calls Tryz.prog 9 #[] w fun e w' => e = .returned (.bool true) ∧ Below w.heap.size w w' := by
  have HG := Lib.hid hG
  clear hG
  go_enter Tryz.func9, Tryz.ntmps9
  go_wp2_with fail
  with_reducible refine (plain_e ⟨#[120]⟩ _ (by decide) (by rw [ByteArray.toList_eq]; decide)).mono ?_
  rintro e w2 ⟨vn, rfl, hn4, hb2⟩
  obtain ⟨An, nn, cn, rfl⟩ := N_any hn4
  have HN := Lib.hid (And.intro hn4 hb2)
  clear hn4 hb2
  go_wp2_with (first | ((with_reducible refine gate_dst (N := 1) rfl ?_); refine box_event ?hg (N := 1) ?hd (cs := #[.int .i64 0, .string ⟨#[]⟩, .string ⟨#[]⟩, .slice none 0 0, .slice none 0 0, .string ⟨#[]⟩]) (t := 25) ?hr ?_; (case hd => rfl); (case hg => rfl); (case hr => first | (go_simp; done) | (go_simp; rfl)); intro gn hg_gn w3 hx_gn hb_gn; have HK0 := Lib.hid (And.intro hx_gn (And.intro hg_gn hb_gn)); obtain ⟨z0, z1, z2, z3, z4, z5⟩ := box6 hx_gn; have y0 := blk_frozen hx_gn 0; have y1 := blk_frozen hx_gn 1; have y2 := blk_frozen hx_gn 2; have y3 := blk_frozen hx_gn 3; have y4 := blk_frozen hx_gn 4; have y5 := blk_frozen hx_gn 5; clear hx_gn hg_gn hb_gn))
  have HB : Hid (Below w.heap.size w ((((((w3.setCell ⟨gn, 0, none⟩ (.int .i64 0)).setCell ⟨gn, 1, none⟩ (.string atomB)).setCell ⟨gn, 2, none⟩ (.string entryB)).setCell ⟨gn, 3, none⟩ (.slice none 0 0)).setCell ⟨gn, 4, none⟩ (.slice An nn cn)).setCell ⟨gn, 5, none⟩ (.string ⟨#[]⟩)) ∧ ((((((w3.setCell ⟨gn, 0, none⟩ (.int .i64 0)).setCell ⟨gn, 1, none⟩ (.string atomB)).setCell ⟨gn, 2, none⟩ (.string entryB)).setCell ⟨gn, 3, none⟩ (.slice none 0 0)).setCell ⟨gn, 4, none⟩ (.slice An nn cn)).setCell ⟨gn, 5, none⟩ (.string ⟨#[]⟩)).heap[gn]? = some (.cells #[.int .i64 0, .string atomB, .string entryB, .slice none 0 0, .slice An nn cn, .string ⟨#[]⟩] 25 (0, 0)) ∧ k25.K ((((((w3.setCell ⟨gn, 0, none⟩ (.int .i64 0)).setCell ⟨gn, 1, none⟩ (.string atomB)).setCell ⟨gn, 2, none⟩ (.string entryB)).setCell ⟨gn, 3, none⟩ (.slice none 0 0)).setCell ⟨gn, 4, none⟩ (.slice An nn cn)).setCell ⟨gn, 5, none⟩ (.string ⟨#[]⟩)) px [.int .i64 0, .string atomB, .string entryB, .slice none 0 0, .slice An nn cn, .string ⟨#[]⟩]) := Lib.hid (nb_start (x := px) HN.out.2 HN.out.1 rfl HK0.out.1 HK0.out.2.1 HK0.out.2.2)
  clear HN HK0 z0 z1 z2 z3 z4 z5 y0 y1 y2 y3 y4 y5
  generalize ((((((w3.setCell ⟨gn, 0, none⟩ (.int .i64 0)).setCell ⟨gn, 1, none⟩ (.string atomB)).setCell ⟨gn, 2, none⟩ (.string entryB)).setCell ⟨gn, 3, none⟩ (.slice none 0 0)).setCell ⟨gn, 4, none⟩ (.slice An nn cn)).setCell ⟨gn, 5, none⟩ (.string ⟨#[]⟩)) = w4 at HB ⊢
  with_reducible refine (plain_e ⟨#[120]⟩ _ (by decide) (by rw [ByteArray.toList_eq]; decide)).mono ?_
  rintro e w5 ⟨vm, rfl, hm4, hb5⟩
  obtain ⟨Am, nm, cm, rfl⟩ := N_any hm4
  have HM := Lib.hid (And.intro hm4 hb5)
  clear hm4 hb5
  go_upto_region 3 with (first | ((with_reducible refine gate_dst (N := 2) rfl ?_); refine box_event ?hg (N := 2) ?hd (cs := #[.int .i64 0, .string ⟨#[]⟩, .string ⟨#[]⟩, .slice none 0 0, .slice none 0 0, .string ⟨#[]⟩]) (t := 25) ?hr ?_; (case hd => rfl); (case hg => rfl); (case hr => first | (go_simp; done) | (go_simp; rfl)); intro gm hg_gm w6 hx_gm hb_gm; have HK0 := Lib.hid (And.intro hx_gm (And.intro hg_gm hb_gm)); obtain ⟨z0, z1, z2, z3, z4, z5⟩ := box6 hx_gm; have y0 := blk_frozen hx_gm 0; have y1 := blk_frozen hx_gm 1; have y2 := blk_frozen hx_gm 2; have y3 := blk_frozen hx_gm 3; have y4 := blk_frozen hx_gm 4; have y5 := blk_frozen hx_gm 5; clear hx_gm hg_gm hb_gm))
  have HK : Hid (MI #[.int .i64 0, .string atomB, .string entryB, .slice none 0 0, .slice An nn cn, .string ⟨#[]⟩] w4 ((((((w6.setCell ⟨gm, 0, none⟩ (.int .i64 0)).setCell ⟨gm, 1, none⟩ (.string atomB)).setCell ⟨gm, 2, none⟩ (.string entryB)).setCell ⟨gm, 3, none⟩ (.slice none 0 0)).setCell ⟨gm, 4, none⟩ (.slice Am nm cm)).setCell ⟨gm, 5, none⟩ (.string ⟨#[]⟩)) gn gm 2 px (.slice none 0 0) (.slice Am nm cm)) := Lib.hid (MI.start (x := px) (m := 2) (Below.refl _ _) HB.out.2.1 HM.out.2 (Kd.N_nil _ _ _ _ _) (Kd.N_mono HM.out.1 (fun k hk => ⟨hk, by simp [Value.ownBlock]⟩)) (plain_ksm _ (by decide)) HK0.out.1 HK0.out.2.1 HK0.out.2.2)
  clear HM HK0 z0 z1 z2 z3 z4 z5 y0 y1 y2 y3 y4 y5
  generalize ((((((w6.setCell ⟨gm, 0, none⟩ (.int .i64 0)).setCell ⟨gm, 1, none⟩ (.string atomB)).setCell ⟨gm, 2, none⟩ (.string entryB)).setCell ⟨gm, 3, none⟩ (.slice none 0 0)).setCell ⟨gm, 4, none⟩ (.slice Am nm cm)).setCell ⟨gm, 5, none⟩ (.string ⟨#[]⟩)) = w7 at HK ⊢
  obtain ⟨x, hx⟩ : ∃ x, x = px := ⟨_, rfl⟩
  rw [← hx] at HK
  have HX := Lib.hid hx
  clear hx
  go_wp2_with fail
  have HK := Lib.hid (HK.out.step (below_drew (Below.refl _ _)))
  refine start_ (n := 7) (S := fun w' => w'.cell? ⟨gm, 4, none⟩ = some (.slice Am nm cm)) (ds := [6]) #[false, false, false, false, false, false, false] (by kernel_rfl) rfl rfl HK.out.c4.1 (fun hHeld => ?_)
  generalize hwd_ : World.drew _ = w20 at HK hHeld ⊢
  clear hwd_
  refine pure_ (i := 0) (N := some 5) (v := ?_) (a' := ?_) #[true, false, false, false, false, false, false] rfl rfl (by kernel_rfl) (fun _ _ _ h => h) (Or.inl ⟨by rfl, ?_⟩) ?_ ?_
  rotate_left
  · intro w'
    go_simp
    with_reducible rfl
  rotate_left
  · simp only [Act.put, List.setIfInBounds_toArray, List.set_cons_zero, List.set_cons_succ, i64_w, i32_w]
    rfl
  refine take_ (i := 1) (N := some 6) (v := ?_) (a' := ?_) #[true, true, false, false, false, false, false] rfl rfl (by kernel_rfl) (fun _ _ _ h => h) (Or.inl ⟨by rfl, ?_⟩) hHeld ?_ ?_
  rotate_left
  · rintro w' s0
    go_simp
    with_reducible rfl
  rotate_left
  · simp only [Act.put, List.setIfInBounds_toArray, List.set_cons_zero, List.set_cons_succ, i64_w, i32_w]
    rfl
  refine one_ (i := 2) (N := some 7) #[true, true, true, false, false, false, false] rfl rfl (by kernel_rfl) (by decide) (fun K hK => ?_)
  refine goes_ Tryz.func16 (by kernel_rfl) rfl #[.string ⟨#[116, 105, 116, 108, 101]⟩, .string ⟨#[121]⟩] (by rfl) rfl rfl (by (try simp only [List.map_toArray, List.map_cons, List.map_nil]); first | done | rfl) ?_
  with_reducible refine (el_e ⟨#[116, 105, 116, 108, 101]⟩ ⟨#[121]⟩ _ (by decide) (by decide)).mono ?_
  rintro e w21 ⟨vt, rfl, ht4, hb⟩
  refine ⟨_, rfl, ?_⟩
  have HFT := Lib.hid (elx_fk (name := ⟨#[116, 105, 116, 108, 101]⟩) ht4)
  have HFR := Lib.hid HK.out.fresh
  have HK := Lib.hid (HK.out.step hb)
  clear ht4 hb
  refine hK.out _ _ HK.out.c4.1 (fun hHeld => ?_)
  clear hK K
  refine norm_ (a' := ?_) ?_ ?_
  rotate_left
  · show Act.put _ (some 7) _ = _
    simp only [Act.put, List.setIfInBounds_toArray, List.set_cons_zero, List.set_cons_succ, i64_w, i32_w]
    rfl
  refine one_ (i := 3) (N := some 8) #[true, true, true, true, false, false, false] rfl rfl (by kernel_rfl) (by decide) (fun K hK => ?_)
  refine MI.nlit1_step (xe := ⟨0, atomB, ⟨#[116, 105, 116, 108, 101]⟩, [], elK ⟨#[121]⟩, ⟨#[]⟩⟩) HK.out HFT.out HFR.out ?hw (N := 8) ?hd ?hr ?_
  (case hw => rfl)
  (case hd => rfl)
  (case hr => first | (go_simp; done) | (go_simp; rfl))
  intro A8 k8 w22 hk hf
  clear HK
  have HK := Lib.hid hk
  have HF := Lib.hid hf
  clear hk hf HFT HFR
  refine hK.out _ _ HK.out.c4.1 (fun hHeld => ?_)
  clear hK K
  refine norm_ (a' := ?_) ?_ ?_
  rotate_left
  · show Act.put _ (some 8) _ = _
    simp only [Act.put, List.setIfInBounds_toArray, List.set_cons_zero, List.set_cons_succ, i64_w, i32_w]
    rfl
  refine one_ (i := 4) (N := some 9) #[true, true, true, true, true, false, false] rfl rfl (by kernel_rfl) (by decide) (fun K hK => ?_)
  refine MI.app_step (s := .tmp 6) (y := .tmp 8) (k' := k8) (N := 9) HK.out ?hw ?hd ?ho ?hs ?hx HF.out (fun z hz => by rw [List.mem_singleton.1 hz]; exact elx_sm ⟨#[116, 105, 116, 108, 101]⟩ ⟨#[121]⟩ (by decide) (by decide)) (m' := 3) (by decide) (by have := HK.out.sm.n4; show _ + 1 ≤ 3; omega) (by decide) (by decide) ?_
  (case hw => rfl)
  (case hd => rfl)
  (case ho => rfl)
  (case hs => rfl)
  (case hx => rfl)
  intro A9 n9 c9 w23 hc4 hf4 hb23 hk
  clear HK
  have HK := Lib.hid hk
  clear hk HF
  refine hK.out _ _ hc4 (fun hHeld => ?_)
  clear hK K
  refine norm_ (a' := ?_) ?_ ?_
  rotate_left
  · show Act.put _ (some 9) _ = _
    simp only [Act.put, List.setIfInBounds_toArray, List.set_cons_zero, List.set_cons_succ, i64_w, i32_w]
    rfl
  refine pure_ (i := 5) (N := some 10) (v := ?_) (a' := ?_) #[true, true, true, true, true, true, false] rfl rfl (by kernel_rfl) (fun _ _ _ h => h) (Or.inl ⟨by rfl, ?_⟩) ?_ ?_
  rotate_left
  · intro w'
    go_simp
    with_reducible rfl
  rotate_left
  · simp only [Act.put, List.setIfInBounds_toArray, List.set_cons_zero, List.set_cons_succ, i64_w, i32_w]
    rfl
  refine last_ (i := 6) (N := none) #[true, true, true, true, true, true, true] rfl rfl (by kernel_rfl) (by decide) (fun K hK => ?_)
  refine skip_ (w1 := ?_) (by rfl) rfl ?_ ?_
  rotate_left
  · go_simp
    rfl
  refine hK.out _ _ ?_
  clear hK K
  refine done_ (by kernel_rfl) ?_
  generalize (w23.setCell ⟨gm, 4, none⟩ (.slice A9 n9 c9)) = w10 at HK ⊢
  clear hc4 hf4 hb23 hHeld
  obtain ⟨xm, hxm⟩ : ∃ xm : S25, xm = ⟨x.f0, x.f1, x.f2, x.f3, x.f4 ++ [⟨0, atomB, ⟨#[116, 105, 116, 108, 101]⟩, [], elK ⟨#[121]⟩, ⟨#[]⟩⟩], x.f5⟩ := ⟨_, rfl⟩
  rw [← hxm] at HK
  have HXM : Hid (xm = twoN) := by
    have e2 : elK ⟨#[121]⟩ = [⟨1, ⟨#[]⟩, ⟨#[]⟩, [], [], ⟨#[121]⟩⟩] := by unfold elK; rw [if_neg (by rw [ByteArray.toList_eq]; decide)]
    rw [hxm, HX.out, e2]
    exact rfl
  clear hxm HX
  have HNK := Lib.hid (k25.K_below HK.out.bw HB.out.2.2)
  have HG := Lib.hid (HG.out.step (HB.out.1.trans (HK.out.bw.mono HB.out.1.size)))
  obtain ⟨z0, z1, z2, z3, z4, z5⟩ := box6 HK.out.b2
  obtain ⟨t0, t1, t2, t3, t4, t5⟩ := HK.out.cells
  go_wp2_with fail
  with_reducible refine (check_px An nn cn false 0 check1 _ HG.out HNK.out).mono ?_
  rintro e w31 ⟨rfl, hb⟩
  clear z0 z1 z2 z3 z4 z5 t0 t1 t2 t3 t4 t5
  have HG := Lib.hid (HG.out.step hb)
  have HNK := Lib.hid (k25.K_below hb HNK.out)
  have HK := Lib.hid (HK.out.step hb)
  clear hb
  obtain ⟨z0, z1, z2, z3, z4, z5⟩ := box6 HK.out.b2
  obtain ⟨t0, t1, t2, t3, t4, t5⟩ := HK.out.cells
  go_wp2_with fail
  with_reducible refine (check_px An nn cn true 150 check2 _ HG.out HNK.out).mono ?_
  rintro e w32 ⟨rfl, hb⟩
  clear z0 z1 z2 z3 z4 z5 t0 t1 t2 t3 t4 t5
  have HG := Lib.hid (HG.out.step hb)
  have HNK := Lib.hid (k25.K_below hb HNK.out)
  have HK := Lib.hid (HK.out.step hb)
  clear hb
  obtain ⟨z0, z1, z2, z3, z4, z5⟩ := box6 HK.out.b2
  obtain ⟨t0, t1, t2, t3, t4, t5⟩ := HK.out.cells
  go_wp2_with fail
  with_reducible refine (check_node xm none 0 0 A9 n9 c9 false 150 (by rw [HXM.out]; exact check3) _ HG.out (Kd.FK_now HK.out.fk) (HK.out.sm.sm (by decide))).mono ?_
  rintro e w33 ⟨rfl, hb⟩
  clear z0 z1 z2 z3 z4 z5 t0 t1 t2 t3 t4 t5
  have HG := Lib.hid (HG.out.step hb)
  have HNK := Lib.hid (k25.K_below hb HNK.out)
  have HK := Lib.hid (HK.out.step hb)
  clear hb
  go_wp2_with fail
  with_reducible refine (el_e _ _ _ (by decide) (by decide)).mono ?_
  rintro e w34 ⟨vt, rfl, ht4, hb⟩
  obtain ⟨At, nt, ct, rfl⟩ := N_any ht4
  have HT := Lib.hid ht4
  have HK := Lib.hid (HK.out.step hb)
  clear ht4 hb
  go_wp2_with fail
  with_reducible refine (text_el _ _ ⟨#[120, 121]⟩ At nt ct _ HT.out (by decide) text_xy).mono ?_
  rintro e w35 ⟨rfl, hb⟩
  have HK := Lib.hid (HK.out.step hb)
  clear hb
  go_wp2_with fail
  go_ret
  exact ⟨rfl, HB.out.1.trans (HK.out.bw.mono HB.out.1.size)⟩
end Go.Proofs.YtcplaafmelcndaaGreatDoor.At
end
section
/- atom.Check's answer hangs on the kids of Atom alone, and not on their order. -/
set_option linter.unusedVariables false
set_option linter.unusedSimpArgs false
namespace Go.Proofs.YtcplaafmelcndaaGreatDoor.At
open Go.Proofs.YtcplaafmelcndaaGreatDoor.Pr
/-- Kids that are none of Atom change nothing. -/
theorem checkN_foreign (T : Tests) (x y : S25) (h0 : y.f0 = x.f0) (h1 : y.f1 = x.f1) (h2 : y.f2 = x.f2) (k : Nat) (m : S25) (hm : ∀ name, isV m atomB name = false) (h4 : y.f4 = x.f4.take k ++ m :: x.f4.drop k) (stored : Bool) : checkN T y stored = checkN T x stored := by
  unfold checkN
  have e1 : isV y atomB entryB = isV x atomB entryB := by unfold isV; rw [h0, h1, h2]
  have e3 : ∀ name, allV y.f4 name = allV x.f4 name := fun name => by
    unfold allV
    rw [h4, List.filter_append, List.filter_cons, if_neg (by rw [hm]; decide), ← List.filter_append, List.take_append_drop]
  have e2 : ∀ r : Rul, r.fits y.f4 = r.fits x.f4 := fun r => by unfold Rul.fits; rw [e3]
  rw [e1, e3]
  simp only [e2]
end Go.Proofs.YtcplaafmelcndaaGreatDoor.At
end
section
/- A copy of a node under way, whose kids are put together anew (AtomOrder, AtomForeign); the size of a node that is read. -/
set_option linter.unusedVariables false
set_option linter.unusedSimpArgs false
set_option maxRecDepth 20000
namespace Go.Proofs.YtcplaafmelcndaaGreatDoor.At
open Go.RowKit Go.Lib Go.Proofs.YtcplaafmelcndaaGreatDoor.Pr Go.Proofs.YtcplaafmelcndaaGreatDoor.Opg Go.Proofs.YtcplaafmelcndaaGreatDoorW.PrintWords Go.Proofs.YtcplaafmelcndaaGreatDoorW.PrintLast Go.Proofs.YtcplaafmelcndaaGreatDoorW.PrintMore
/-- Small nodes are good ones. -/
theorem sm_good {x : S25} (h : Sm x) : Good25 x := by
  induction h with
  | mk x h1 h2 h5 l3 l4 ha hk ih =>
    refine Good25.mk x ?_ ?_ ?_ (by omega) (by omega) (fun a ha' => ?_) ih
    · unfold gs; omega
    · unfold gs; omega
    · unfold gs; omega
    · obtain ⟨q0, q1, q2⟩ := ha a ha'
      exact ⟨by unfold gs; omega, by unfold gs; omega, by unfold gs; omega⟩
/-- The size of a node: where it is small, no part of the node is great. -/
theorem size_c (x : S25) (A3 : Option Addr) (n3 c3 : Nat) (A4 : Option Addr) (n4 c4 : Nat) (w : World) (hg : Good25 x) (hK : k25.K w x [.int .i64 x.f0, .string x.f1, .string x.f2, .slice A3 n3 c3, .slice A4 n4 c4, .string x.f5]) :
    Calls Tryz.prog 8 #[.agg #[.int .i64 x.f0, .string x.f1, .string x.f2, .slice A3 n3 c3, .slice A4 n4 c4, .string x.f5], .int .i64 3000] w fun e w' => ∃ t : Int, e = .returned (.int .i64 t) ∧ (t ≤ 3000 → Sm x ∧ x.f4.length ≤ 2999) ∧ Below w.heap.size w w' := by
  obtain ⟨B3, d3, B4, d4, e, l3, g3, l4, g4⟩ := k25_open hK
  simp only [List.cons.injEq, Value.slice.injEq, and_true, true_and] at e
  obtain ⟨⟨rfl, rfl, rfl⟩, rfl, rfl, rfl⟩ := e
  obtain ⟨k, hk⟩ := Siz.size_ends hg
  obtain ⟨t, ht, _, _, hs⟩ := hk 3000 (by decide) (by decide) k (Nat.le_refl _)
  refine (broadsheetref09_Size.calls k _ _ _ A3 c3 x.f3 A4 c4 x.f4 _ 3000 t w g3 l3 g4 l4 ht).mono ?_
  rintro e w' ⟨rfl, hb⟩
  exact ⟨t, rfl, fun h => ⟨(hs h).1, by have := (hs h).2; omega⟩, hb⟩
theorem cels_C {w : World} {A : Option Addr} {n : Nat} {Z : List Pm} (h : Kd.C kCel w A n (Z.map (·.c))) (hn : ∀ z ∈ Z, k25.K w z.x z.c.enc) : Kd.C k25 w A n (Z.map (·.x)) := by
  obtain ⟨h1, h2, h3⟩ := h
  refine ⟨by simpa using h1, h2, fun hp => ?_⟩
  obtain ⟨ad, rfl, hc⟩ := h3 hp
  refine ⟨ad, rfl, fun j p hj => ?_⟩
  rw [List.getElem?_map] at hj
  obtain ⟨z, hz, rfl⟩ := Option.map_eq_some_iff.1 hj
  obtain ⟨c, hc1, hc2, hc3⟩ := hc j z.c (by rw [List.getElem?_map, hz]; rfl)
  have hc2' : c = z.c.enc := hc2
  subst hc2'
  exact ⟨_, hc1, hn z (List.mem_of_getElem? hz), hc3⟩
/-- A copy (g9) of a node (g8), with kids of its own. -/
structure MO (w W : World) (g8 g9 : Nat) (c : Cel) (v4 : Value) (Z : List Pm) : Prop where
  bw : Below w.heap.size w W
  b8 : W.heap[g8]? = some (.cells #[.int .i64 c.f0, .string c.f1, .string c.f2, .slice c.A3 c.n3 c.c3, .slice c.A4 c.n4 c.c4, .string c.f5] 25 (0, 0))
  b9 : W.heap[g9]? = some (.cells #[.int .i64 c.f0, .string c.f1, .string c.f2, .slice c.A3 c.n3 c.c3, v4, .string c.f5] 25 (0, 0))
  l8 : g8 < w.heap.size
  o9 : w.heap.size ≤ g9
  row : Kd.R kCel 25 W w.heap.size (fun k => w.heap.size ≤ k ∧ k ≠ g9) v4 (Z.map (·.c))
section
variable {w W W1 : World} {g8 g9 : Nat} {c : Cel} {v4 : Value} {Z : List Pm}
theorem MO.step (h : MO w W g8 g9 c v4 Z) (hb : Below W.heap.size W W1) : MO w W1 g8 g9 c v4 Z :=
  ⟨h.bw.trans (hb.mono h.bw.size), blk_below h.b8 hb, blk_below h.b9 hb, h.l8, h.o9, Kd.R_below h.row hb⟩
theorem MO.c4 (h : MO w W g8 g9 c v4 Z) : W.cell? ⟨g9, 4, none⟩ = some v4 ∧ W.frozen? ⟨g9, 4, none⟩ = false := ⟨(blk_cell h.b9 4).trans rfl, blk_frozen h.b9 4⟩
theorem MO.k4 (h : MO w W g8 g9 c v4 Z) : W.cell? ⟨g8, 4, none⟩ = some (.slice c.A4 c.n4 c.c4) := (blk_cell h.b8 4).trans rfl
theorem MO.fresh (h : MO w W g8 g9 c v4 Z) : ∀ k, W.heap.size ≤ k → (w.heap.size ≤ k ∧ k ≠ g9) ∧ some k ≠ v4.ownBlock := by
  intro k hk
  have h9 := blk_lt h.b9
  have h0 := h.bw.size
  refine ⟨⟨by omega, by omega⟩, fun e => ?_⟩
  have := Kd.R_lt h.row k e.symm
  omega
theorem MO.put {v : Value} {Z' : List Pm} (h : MO w W g8 g9 c v4 Z) (hn : Kd.R kCel 25 W1 w.heap.size (fun k => w.heap.size ≤ k ∧ k ≠ g9) v (Z'.map (·.c))) (hb : Below w.heap.size w W1) (hm : ∀ k, k < W.heap.size → some k ≠ v4.ownBlock → W1.heap[k]? = W.heap[k]?) :
    (W1.cell? ⟨g9, 4, none⟩ = some v4 ∧ W1.frozen? ⟨g9, 4, none⟩ = false) ∧ MO w (W1.setCell ⟨g9, 4, none⟩ v) g8 g9 c v Z' := by
  have l8 := h.l8
  have o9 := h.o9
  have q8 := (hm g8 (blk_lt h.b8) (fun e => by have := (h.row.1 g8 e.symm).1; omega)).trans h.b8
  have q9 := (hm g9 (blk_lt h.b9) (fun e => (h.row.1 g9 e.symm).2 rfl)).trans h.b9
  exact ⟨⟨(blk_cell q9 4).trans rfl, blk_frozen q9 4⟩, below_set hb o9, blk_far q8 (by show g8 ≠ g9; omega) _, blk_put q9 4 v rfl, l8, o9, Kd.R_far hn (fun k hk => hk.2) _⟩
theorem MO.start {w1 : World} {u0 u1 u2 u3 u4 u5 : Value} (b8 : w.heap[g8]? = some (.cells #[.int .i64 c.f0, .string c.f1, .string c.f2, .slice c.A3 c.n3 c.c3, .slice c.A4 c.n4 c.c4, .string c.f5] 25 (0, 0))) (b9 : w1.heap[g9]? = some (.cells #[u0, u1, u2, u3, u4, u5] 25 (0, 0))) (hg : g9 = w.heap.size) (hb : Below w.heap.size w w1) :
    MO w (((((((w1.setCell ⟨g9, 0, none⟩ (.int .i64 c.f0)).setCell ⟨g9, 1, none⟩ (.string c.f1)).setCell ⟨g9, 2, none⟩ (.string c.f2)).setCell ⟨g9, 3, none⟩ (.slice c.A3 c.n3 c.c3)).setCell ⟨g9, 4, none⟩ (.slice c.A4 c.n4 c.c4)).setCell ⟨g9, 5, none⟩ (.string c.f5)).setCell ⟨g9, 4, none⟩ (.slice none 0 0)) g8 g9 c (.slice none 0 0) [] := by
  have hge : w.heap.size ≤ g9 := by omega
  have l8 := blk_lt b8
  have n8 : g8 ≠ g9 := by omega
  have q8 := blk_below b8 hb
  refine ⟨?_, ?_, ?_, l8, hge, Kd.R_nil _ _ _ _ _⟩
  · exact below_set (below_set (below_set (below_set (below_set (below_set (below_set hb hge) hge) hge) hge) hge) hge) hge
  · exact blk_far (blk_far (blk_far (blk_far (blk_far (blk_far (blk_far q8 (p := ⟨g9, 0, none⟩) n8 _) (p := ⟨g9, 1, none⟩) n8 _) (p := ⟨g9, 2, none⟩) n8 _) (p := ⟨g9, 3, none⟩) n8 _) (p := ⟨g9, 4, none⟩) n8 _) (p := ⟨g9, 5, none⟩) n8 _) (p := ⟨g9, 4, none⟩) n8 _
  · have q9 : ((((((w1.setCell ⟨g9, 0, none⟩ (.int .i64 c.f0)).setCell ⟨g9, 1, none⟩ (.string c.f1)).setCell ⟨g9, 2, none⟩ (.string c.f2)).setCell ⟨g9, 3, none⟩ (.slice c.A3 c.n3 c.c3)).setCell ⟨g9, 4, none⟩ (.slice c.A4 c.n4 c.c4)).setCell ⟨g9, 5, none⟩ (.string c.f5)).heap[g9]? = some (.cells #[.int .i64 c.f0, .string c.f1, .string c.f2, .slice c.A3 c.n3 c.c3, .slice c.A4 c.n4 c.c4, .string c.f5] 25 (0, 0)) := blk_put (blk_put (blk_put (blk_put (blk_put (blk_put b9 0 _ rfl) 1 _ rfl) 2 _ rfl) 3 _ rfl) 4 _ rfl) 5 _ rfl
    exact blk_put q9 4 _ rfl
theorem MO.node {x3 : List S41} {A : Option Addr} {n c4 : Nat} (h : MO w W g8 g9 c (.slice A n c4) Z) (h3 : Kd.C k41 w c.A3 x3.length x3) (e3 : c.n3 = x3.length) (l3 : x3.length ≤ c.c3) (nd : ∀ z ∈ Z, k25.K w z.x z.c.enc) :
    k25.K W ⟨c.f0, c.f1, c.f2, x3, Z.map (·.x), c.f5⟩ [.int .i64 c.f0, .string c.f1, .string c.f2, .slice c.A3 c.n3 c.c3, .slice A n c4, .string c.f5] := by
  obtain ⟨l4, e4, f4⟩ := Kd.R_reads' h.row
  subst l4
  rw [e3]
  have f4' := cels_C f4 (fun z hz => k25.K_below h.bw (nd z hz))
  have e : (Z.map (·.c)).length = (Z.map (·.x)).length := by simp
  have := k25_mk W ⟨c.f0, c.f1, c.f2, x3, Z.map (·.x), c.f5⟩ (c3 := c.c3) (c4 := c4) (A3 := c.A3) (A4 := A) l3 (Kd.C_below h3 h.bw) (by rw [← e]; exact e4) (by rw [← e]; exact f4')
  rw [e]
  exact this
end
section
variable {ops : Array Oper} {rest : List Oper} {o : Oper} {a' : Act} {Q : Exit → Act → World → Prop} {Kc : Act → World → Prop}
variable {w W : World} {g8 g9 : Nat} {c : Cel} {v4 : Value} {Z : List Pm} {N : Tmp}
theorem MO.lit1 {z : Pm} (h : MO w W g8 g9 c v4 Z) (hgd : o.guard = none) (hd : o.dst = some N)
    (hrun : (execOp a'.eval o).run Tryz.prog W = .ok (.value (.slice (some ⟨W.heap.size, 0, none⟩) 1 1)) (W.alloc (.cells z.c.enc.toArray 25)))
    (K : ∀ A c' w1, MO w w1 g8 g9 c v4 Z → Kd.C kCel w1 A 1 [z.c] → wpList Tryz.prog ops Q rest (a'.put o.dst (.slice A 1 c')) w1) : wpList Tryz.prog ops Q (o :: rest) a' W :=
  Kd.R_lit kCel (w0 := w) w.heap.size 25 hgd hd (xs := [z.c]) (inner := z.c.enc) (ok := fun k => (w.heap.size ≤ k ∧ k ≠ g9) ∧ some k ≠ v4.ownBlock) (okp := fun _ => False) hrun (Reps.c6 rfl (Reps.none _ _)) (fun _ hk => hk.elim) (h.fresh _ (Nat.le_refl _)) h.bw h.bw.size (by simp)
    (fun v1 w1 hn hb hg _ => by
      obtain ⟨A, c', rfl⟩ := Kd.R_slice hn
      exact K A c' w1 (h.step (grown_belowK hb h.bw hg)) (Kd.R_reads' hn).2.2)
theorem MO.app_step {s y : Operand} {A : Option Addr} {n k' : Nat} {Z' : List Pm} (h : MO w W g8 g9 c v4 Z) (hw : Region.wanted o (yielded ops a'.tmps) = true) (hd : o.dst = some N)
    (ho : o.op = .call { callee := .builtin .append, args := #[s, y], argTypes := #[23, 23] }) (hs : a'.eval s = v4) (hx : a'.eval y = .slice A n k')
    (HF : Kd.C kCel W A n (Z'.map (·.c))) (hl : Z.length + n ≤ 1000000000000)
    (K : ∀ A n c' w1, w1.cell? ⟨g9, 4, none⟩ = some v4 → w1.frozen? ⟨g9, 4, none⟩ = false → Below w.heap.size w w1 → w1.heap[g8]? = W.heap[g8]? → MO w (w1.setCell ⟨g9, 4, none⟩ (.slice A n c')) g8 g9 c (.slice A n c') (Z ++ Z') → Kc (a'.put o.dst (.slice A n c')) w1) : if Region.wanted o (yielded ops a'.tmps) = true then Oper.wp Tryz.prog o a' W Kc Q else Kc (a'.put o.dst undef) W := by
  refine Kd.R_append_rows_step kCel (Rr := kCel.K W) (w0 := w) w.heap.size hw s y 23 25 _ 104 ho Tryz.underlying23 info25 (by rfl) (by decide) (by decide) v4 (Z.map fun z : Pm => z.c) (Z'.map fun z : Pm => z.c) A n k' (fun k => w.heap.size ≤ k ∧ k ≠ g9) (fun _ => False) hs hx h.row HF (fun _ _ hk => hk) (fun _ hk => hk.elim) (fun k hk => (h.fresh k hk).1) h.bw h.bw.size (by rw [List.length_map]; omega) ?_
  intro v1 w1 hn hb hg hat
  rw [← List.map_append] at hn
  obtain ⟨A1, k1, rfl⟩ := Kd.R_slice hn
  have hp := MO.put h hn hb (fun k hk hne => hg.block k hk hne)
  have l8 := h.l8
  exact K A1 _ k1 w1 hp.1.1 hp.1.2 hb (hg.block g8 (blk_lt h.b8) (fun e => by have := (h.row.1 g8 e.symm).1; omega)) hp.2
theorem MO.app {s y : Operand} {A : Option Addr} {n k' : Nat} {Z' : List Pm} (h : MO w W g8 g9 c v4 Z) (hgd : o.guard = none) (hd : o.dst = some N)
    (ho : o.op = .call { callee := .builtin .append, args := #[s, y], argTypes := #[23, 23] }) (hs : a'.eval s = v4) (hx : a'.eval y = .slice A n k')
    (HF : Kd.C kCel W A n (Z'.map (·.c))) (hl : Z.length + n ≤ 1000000000000)
    (K : ∀ A n c' w1, w1.cell? ⟨g9, 4, none⟩ = some v4 → w1.frozen? ⟨g9, 4, none⟩ = false → MO w (w1.setCell ⟨g9, 4, none⟩ (.slice A n c')) g8 g9 c (.slice A n c') (Z ++ Z') → wpList Tryz.prog ops Q rest (a'.put o.dst (.slice A n c')) w1) : wpList Tryz.prog ops Q (o :: rest) a' W := by
  refine Kd.R_append_rows kCel (Rr := kCel.K W) (w0 := w) w.heap.size hgd s y 23 25 _ 104 ho Tryz.underlying23 info25 (by rfl) (by decide) (by decide) v4 (Z.map fun z : Pm => z.c) (Z'.map fun z : Pm => z.c) A n k' (fun k => w.heap.size ≤ k ∧ k ≠ g9) (fun _ => False) hs hx h.row HF (fun _ _ hk => hk) (fun _ hk => hk.elim) (fun k hk => (h.fresh k hk).1) h.bw h.bw.size (by rw [List.length_map]; omega) ?_
  intro v1 w1 hn hb hg hat
  rw [← List.map_append] at hn
  obtain ⟨A1, k1, rfl⟩ := Kd.R_slice hn
  have hp := MO.put h hn hb (fun k hk hne => hg.block k hk hne)
  exact K A1 _ k1 w1 hp.1.1 hp.1.2 hp.2
end
end Go.Proofs.YtcplaafmelcndaaGreatDoor.At
end
section
/- The law AtomOrder, walked by hand. Printed by wip/A15/genorder.py. -/
set_option linter.unusedVariables false
set_option linter.unusedSimpArgs false
set_option maxRecDepth 20000
namespace Go.Proofs.YtcplaafmelcndaaGreatDoor.At
open Go.RowKit Go.Lib Go.Proofs.YtcplaafmelcndaaGreatDoor.Pr Go.Proofs.YtcplaafmelcndaaGreatDoor.Opg Go.Proofs.YtcplaafmelcndaaGreatDoorW.PrintWords Go.Proofs.YtcplaafmelcndaaGreatDoorW.PrintLast Go.Proofs.YtcplaafmelcndaaGreatDoorW.PrintMore
theorem Pm.mk3 {x : S25} {A3 A4 : Option Addr} {n3 c3 n4 c4 : Nat} {w : World} (h : k25.K w x [.int .i64 x.f0, .string x.f1, .string x.f2, .slice A3 n3 c3, .slice A4 n4 c4, .string x.f5]) : ∃ z : Pm, z.x = x ∧ z.c = ⟨x.f0, x.f1, x.f2, A3, n3, c3, A4, n4, c4, x.f5⟩ := by
  obtain ⟨B3, d3, B4, d4, e, _⟩ := k25_open h
  simp only [List.cons.injEq, Value.slice.injEq, and_true, true_and] at e
  obtain ⟨⟨rfl, rfl, rfl⟩, rfl, rfl, rfl⟩ := e
  exact ⟨⟨x, ⟨x.f0, x.f1, x.f2, A3, x.f3.length, c3, A4, x.f4.length, c4, x.f5⟩, rfl, rfl, rfl, rfl, rfl, rfl⟩, rfl, rfl⟩
/-- The law's node: its block, and what is read of it. -/
def MN (w W : World) (g8 : Nat) (y : S25) (c : Cel) : Prop := Below w.heap.size w W ∧ W.heap[g8]? = some (.cells #[.int .i64 c.f0, .string c.f1, .string c.f2, .slice c.A3 c.n3 c.c3, .slice c.A4 c.n4 c.c4, .string c.f5] 25 (0, 0)) ∧ k25.K W y c.enc ∧ Good25 y ∧ (c.f0 = y.f0 ∧ c.f1 = y.f1 ∧ c.f2 = y.f2 ∧ c.n3 = y.f3.length ∧ c.n4 = y.f4.length ∧ c.f5 = y.f5)
theorem MN.step {w W W1 : World} {g8 : Nat} {y : S25} {c : Cel} (h : MN w W g8 y c) (hb : Below W.heap.size W W1) : MN w W1 g8 y c := ⟨h.1.trans (hb.mono h.1.size), blk_below h.2.1 hb, k25.K_below hb h.2.2.1, h.2.2.2⟩
theorem mn_of {w W W' : World} {g8 : Nat} {x : S25} {A3 A4 : Option Addr} {n3 c3 n4 c4 : Nat} (hw : Below w.heap.size w W) (hK : k25.K W' x [.int .i64 x.f0, .string x.f1, .string x.f2, .slice A3 n3 c3, .slice A4 n4 c4, .string x.f5]) (hb : Below W'.heap.size W' W) (hc : W.heap[g8]? = some (.cells #[.int .i64 x.f0, .string x.f1, .string x.f2, .slice A3 n3 c3, .slice A4 n4 c4, .string x.f5] 25 (0, 0))) (hg : Good25 x) : ∃ y c, MN w W g8 y c := by
  obtain ⟨z, hx, hz⟩ := Pm.mk3 hK
  refine ⟨x, z.c, hw, by rw [hz]; exact hc, ?_, hg, by rw [← hx]; exact ⟨z.e0, z.e1, z.e2, z.e3, z.e4, z.e5⟩⟩
  rw [hz]
  exact k25.K_below hb hK
theorem check_mn {y : S25} {c : Cel} (hY : c.f0 = y.f0 ∧ c.f1 = y.f1 ∧ c.f2 = y.f2 ∧ c.n3 = y.f3.length ∧ c.n4 = y.f4.length ∧ c.f5 = y.f5) (hS : Sm y) (stored : Bool) (r : Int) (hr : checkX y stored = r) (W : World) (hG : LaidW W) (hK : k25.K W y c.enc) :
    Calls Tryz.prog 10 #[.agg #[.int .i64 c.f0, .string c.f1, .string c.f2, .slice c.A3 c.n3 c.c3, .slice c.A4 c.n4 c.c4, .string c.f5], .bool stored] W fun e w' => e = .returned (.int .i64 r) ∧ Below W.heap.size W w' := by
  subst hr
  exact check_pm ⟨y, c, hY.1, hY.2.1, hY.2.2.1, hY.2.2.2.1, hY.2.2.2.2.1, hY.2.2.2.2.2⟩ stored W hG hK hS
/-- The copy, with its kids. -/
def copyN (y : S25) (l : List S25) : S25 := ⟨y.f0, y.f1, y.f2, y.f3, l, y.f5⟩
theorem copy_sm {y : S25} (h : Sm y) (l : List S25) (hl : l.length ≤ 3000) (hk : ∀ z ∈ l, Sm z) : Sm (copyN y l) := by
  cases h
  exact Sm.mk _ ‹_› ‹_› ‹_› ‹_› hl ‹_› hk
theorem check_mo {w W : World} {g8 g9 : Nat} {y : S25} {c : Cel} {A : Option Addr} {n c4 : Nat} {Z : List Pm} {l : List S25} (hl : Z.map (·.x) = l) (h : MO w W g8 g9 c (.slice A n c4) Z) (hN : k25.K w y c.enc) (hY : c.f0 = y.f0 ∧ c.f1 = y.f1 ∧ c.f2 = y.f2 ∧ c.n3 = y.f3.length ∧ c.n4 = y.f4.length ∧ c.f5 = y.f5) (nd : ∀ z ∈ Z, k25.K w z.x z.c.enc) (hS : Sm (copyN y l)) (stored : Bool) (r : Int) (hr : checkX (copyN y l) stored = r) (hG : LaidW W) :
    Calls Tryz.prog 10 #[.agg #[.int .i64 c.f0, .string c.f1, .string c.f2, .slice c.A3 c.n3 c.c3, .slice A n c4, .string c.f5], .bool stored] W fun e w' => e = .returned (.int .i64 r) ∧ Below W.heap.size W w' := by
  obtain ⟨l3, g3, l4, g4⟩ := pm_rows ⟨y, c, hY.1, hY.2.1, hY.2.2.1, hY.2.2.2.1, hY.2.2.2.2.1, hY.2.2.2.2.2⟩ hN
  have hk := h.node (x3 := y.f3) g3 hY.2.2.2.1 l3 nd
  have e : (⟨c.f0, c.f1, c.f2, y.f3, Z.map (·.x), c.f5⟩ : S25) = copyN y l := by
    unfold copyN
    rw [hY.1, hY.2.1, hY.2.2.1, hY.2.2.2.2.2, hl]
  rw [e] at hk
  have := check_node (copyN y l) c.A3 c.n3 c.c3 A n c4 stored r hr W hG (by show k25.K W _ [.int .i64 y.f0, .string y.f1, .string y.f2, .slice c.A3 c.n3 c.c3, .slice A n c4, .string y.f5]; rw [← hY.1, ← hY.2.1, ← hY.2.2.1, ← hY.2.2.2.2.2]; exact hk) hS
  rw [hY.1, hY.2.1, hY.2.2.1, hY.2.2.2.2.2]
  exact this
end Go.Proofs.YtcplaafmelcndaaGreatDoor.At
end
