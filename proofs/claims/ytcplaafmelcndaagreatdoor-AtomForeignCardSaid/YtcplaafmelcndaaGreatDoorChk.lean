/- atom.Check by hand: a map of rules, ranged over in any order. (Written by genchk.py.) -/
import Derived.Test.YtcplaafmelcndaaGreatDoorVar
import Derived.Maps.RangeRun
import Derived.Maps.Keyed
import Derived.Laws.EntriesVeiled
set_option linter.unusedVariables false
set_option linter.unusedSimpArgs false
set_option maxRecDepth 20000
namespace Go.Proofs.YtcplaafmelcndaaGreatDoor.At
open Go.RowKit Go.Lib Go.Proofs.YtcplaafmelcndaaGreatDoor.Pr Go.Proofs.YtcplaafmelcndaaGreatDoorW.PrintWords Go.Proofs.YtcplaafmelcndaaGreatDoorW.PrintMore Go.Proofs.YtcplaafmelcndaaGreatDoorW.PrintLast
open Go.ChangeMaps (setBlock)
/-- What kids must be, as plain tests. -/
structure Tests where
  person : S25 → Bool
  moment : S25 → Bool
  construct : S25 → Bool
  id : S25 → Bool
  link : S25 → Bool
  category : S25 → Bool
  content : S25 → Bool
/-- A function that tells whether a node is as it must be. -/
def RightOK (g : Nat) (p : S25 → Bool) : Prop := (∀ args w, (callFunc g args).run Tryz.prog w = .ok (.enter g args) w) ∧ ∀ (z : Pm) (w : World), LaidW w → k25.K w z.x z.c.enc → Sm z.x → Calls Tryz.prog g #[.agg z.c.enc.toArray] w fun e w' => e = .returned (.bool (p z.x)) ∧ Below w.heap.size w w'
structure Rul where
  name : ByteArray
  g : Nat
  least : Int
  most : Int
  p : S25 → Bool
def Rul.val (r : Rul) : Value := .agg #[.func (.func r.g) #[] #[], .int .i64 r.least, .int .i64 r.most]
def rulesL (T : Tests) (need : Int) : List Rul := [
  ⟨⟨#[97, 117, 116, 104, 111, 114]⟩, 17, 1, 1073741824, T.person⟩,
  ⟨⟨#[99, 111, 110, 116, 114, 105, 98, 117, 116, 111, 114]⟩, 17, 0, 1073741824, T.person⟩,
  ⟨⟨#[117, 112, 100, 97, 116, 101, 100]⟩, 18, need, 1, T.moment⟩,
  ⟨⟨#[112, 117, 98, 108, 105, 115, 104, 101, 100]⟩, 18, 0, 1, T.moment⟩,
  ⟨⟨#[116, 105, 116, 108, 101]⟩, 19, 1, 1, T.construct⟩,
  ⟨⟨#[115, 117, 109, 109, 97, 114, 121]⟩, 19, 0, 1, T.construct⟩,
  ⟨⟨#[114, 105, 103, 104, 116, 115]⟩, 19, 0, 1, T.construct⟩,
  ⟨⟨#[105, 100]⟩, 20, need, 1, T.id⟩,
  ⟨⟨#[108, 105, 110, 107]⟩, 21, 0, 1073741824, T.link⟩,
  ⟨⟨#[99, 97, 116, 101, 103, 111, 114, 121]⟩, 22, 0, 1073741824, T.category⟩,
  ⟨⟨#[99, 111, 110, 116, 101, 110, 116]⟩, 23, 0, 1, T.content⟩]
def Rul.fits (r : Rul) (l : List S25) : Bool := fitsV r.least r.most r.p (allV l r.name)
def entryB : ByteArray := ⟨#[101, 110, 116, 114, 121]⟩
def linkB : ByteArray := ⟨#[108, 105, 110, 107]⟩
/-- atom.Check. -/
def checkN (T : Tests) (x : S25) (stored : Bool) : Int :=
  if (isV x atomB entryB && variantsV (allV x.f4 linkB) && (rulesL T (if stored = true then 1 else 0)).all (fun r => r.fits x.f4)) = true then 0 else 150
/-- The entries of a map that was filled with rules, each key new. -/
def entsOf : Nat → List Rul → List MapEntry
  | _, [] => []
  | i, r :: l => ⟨.string r.name, r.val, i⟩ :: entsOf (i + 1) l
theorem entsOf_append (l m : List Rul) : ∀ i, entsOf i (l ++ m) = entsOf i l ++ entsOf (i + l.length) m := by
  induction l with
  | nil => intro i; rfl
  | cons r l ih => intro i; simp only [List.cons_append, entsOf, ih, List.length_cons]; rw [show i + 1 + l.length = i + (l.length + 1) by omega]
theorem entsOf_mem {l : List Rul} : ∀ {i : Nat} {e : MapEntry}, e ∈ entsOf i l → ∃ r ∈ l, e.key = .string r.name ∧ e.val = r.val ∧ i ≤ e.born ∧ e.born < i + l.length := by
  induction l with
  | nil => intro i e h; simp [entsOf] at h
  | cons r l ih =>
    intro i e h
    rcases List.mem_cons.1 h with rfl | h
    · exact ⟨r, List.mem_cons_self .., rfl, rfl, Nat.le_refl _, by simp⟩
    · obtain ⟨r', h1, h2, h3, h4, h5⟩ := ih h
      exact ⟨r', List.mem_cons_of_mem _ h1, h2, h3, by omega, by simp; omega⟩
theorem entsOf_of_mem {l : List Rul} : ∀ {i : Nat} {r : Rul}, r ∈ l → ∃ e ∈ entsOf i l, e.key = .string r.name ∧ e.val = r.val := by
  induction l with
  | nil => intro i r h; simp at h
  | cons r0 l ih =>
    intro i r h
    rcases List.mem_cons.1 h with rfl | h
    · exact ⟨_, List.mem_cons_self .., rfl, rfl⟩
    · obtain ⟨e, h1, h2⟩ := ih (i := i + 1) h
      exact ⟨e, List.mem_cons_of_mem _ h1, h2⟩
theorem entsOf_born : ∀ (l : List Rul) (i : Nat), ((entsOf i l).map (·.born)).Nodup
  | [], i => by simp [entsOf]
  | r :: l, i => by
    rw [entsOf, List.map_cons, List.nodup_cons]
    refine ⟨fun h => ?_, entsOf_born l (i + 1)⟩
    obtain ⟨e, he, hb⟩ := List.mem_map.1 h
    obtain ⟨_, _, _, _, h4, _⟩ := entsOf_mem he
    simp at hb
    omega
/-- A block is a map that was filled with rules. -/
def RulesM (b : Nat) (l : List Rul) (w : World) : Prop := ∃ es : Array MapEntry, w.heap[b]? = some (.map es l.length) ∧ es.toList = entsOf 0 l
theorem law9 : Go.WideMaps.KeyLaw Tryz.prog 9 := Go.WideMaps.string_law Tryz.underlying9
theorem key9 (s : ByteArray) (h : s.size ≤ 9000000) : ∃ l, keyOf Tryz.prog 9 (.string s) = some l := ⟨_, Go.WideMaps.keyOf_string_mk Tryz.underlying9 (by unfold maxLen; omega)⟩
theorem rules_new (w : World) : RulesM w.heap.size [] (w.alloc (.map #[] 0)) := ⟨#[], heap_alloc_new _ _, rfl⟩
theorem rules_ins {b : Nat} {l : List Rul} {w : World} (h : RulesM b l w) (r : Rul) (hn0 : r.name.data.toList ∉ l.map (fun q => q.name.data.toList)) (hs0 : ∀ s ∈ l.map (fun q => q.name.data.toList), s.length ≤ 9000000) (hr0 : r.name.data.toList.length ≤ 9000000) :
    ∃ w', (Instr.mapUpdate 47 (.map (some b)) (.string r.name) r.val).run Tryz.prog w = .ok () w' ∧ RulesM b (l ++ [r]) w' ∧ w.grownBy w' (some b) ∧ w'.heap.size = w.heap.size := by
  have hr : r.name.size ≤ 9000000 := by rw [Array.length_toList] at hr0; exact hr0
  have hn : ∀ q ∈ l, q.name ≠ r.name := fun q hq e => hn0 (List.mem_map.2 ⟨q, hq, by rw [e]⟩)
  have hs : ∀ q ∈ l, q.name.size ≤ 9000000 := fun q hq => by have := hs0 _ (List.mem_map.2 ⟨q, hq, rfl⟩); rw [Array.length_toList] at this; exact this
  obtain ⟨es, hb, he⟩ := h
  obtain ⟨kl, hk⟩ := key9 r.name hr
  have hks : ∀ e ∈ es.toList, ∃ l, keyOf Tryz.prog 9 e.key = some l := fun e hm => by
    rw [he] at hm
    obtain ⟨q, hq, h1, _⟩ := entsOf_mem hm
    rw [h1]; exact key9 _ (hs q hq)
  rcases law9.find w hk es.toList hks with ⟨h1, _⟩ | ⟨j, e, _, h8, h9⟩
  · refine ⟨setBlock w b (.map (es.push ⟨.string r.name, r.val, l.length⟩) (l.length + 1)), ?_, ⟨es.push ⟨.string r.name, r.val, l.length⟩, ?_, ?_⟩, ⟨rfl, rfl, rfl, by simp [setBlock], fun k _ hne => sb_other _ () (fun e => hne (by rw [e]))⟩, by simp [setBlock]⟩
    · simp [Instr.mapUpdate, run_underlying Tryz.underlying47, MapKept.run_getObj_map hb, law9.check w false hk, h1, MapKept.run_setObj_map _ hb, Result.andThen, setBlock]
    · rw [List.length_append]; exact sb_same hb _
    · rw [Array.toList_push, he, entsOf_append, Nat.zero_add]; rfl
  · exfalso
    have hm := List.mem_of_getElem? h8
    rw [he] at hm
    obtain ⟨q, hq, h2, _⟩ := entsOf_mem hm
    rw [h2] at h9
    exact hn q hq (by injection h9)
/-- All rules are laid, one behind the other. -/
theorem rules_built (T : Tests) (need : Int) (b : Nat) (w : World) (h0 : RulesM b [] w) : ∃ W1 W2 W3 W4 W5 W6 W7 W8 W9 W10 W11,
    (Instr.mapUpdate 47 (.map (some b)) (.string ⟨#[97, 117, 116, 104, 111, 114]⟩) (.agg #[.func (.func 17) #[] #[], .int .i64 1, .int .i64 1073741824])).run Tryz.prog w = .ok () W1 ∧
    (Instr.mapUpdate 47 (.map (some b)) (.string ⟨#[99, 111, 110, 116, 114, 105, 98, 117, 116, 111, 114]⟩) (.agg #[.func (.func 17) #[] #[], .int .i64 0, .int .i64 1073741824])).run Tryz.prog W1 = .ok () W2 ∧
    (Instr.mapUpdate 47 (.map (some b)) (.string ⟨#[117, 112, 100, 97, 116, 101, 100]⟩) (.agg #[.func (.func 18) #[] #[], .int .i64 need, .int .i64 1])).run Tryz.prog W2 = .ok () W3 ∧
    (Instr.mapUpdate 47 (.map (some b)) (.string ⟨#[112, 117, 98, 108, 105, 115, 104, 101, 100]⟩) (.agg #[.func (.func 18) #[] #[], .int .i64 0, .int .i64 1])).run Tryz.prog W3 = .ok () W4 ∧
    (Instr.mapUpdate 47 (.map (some b)) (.string ⟨#[116, 105, 116, 108, 101]⟩) (.agg #[.func (.func 19) #[] #[], .int .i64 1, .int .i64 1])).run Tryz.prog W4 = .ok () W5 ∧
    (Instr.mapUpdate 47 (.map (some b)) (.string ⟨#[115, 117, 109, 109, 97, 114, 121]⟩) (.agg #[.func (.func 19) #[] #[], .int .i64 0, .int .i64 1])).run Tryz.prog W5 = .ok () W6 ∧
    (Instr.mapUpdate 47 (.map (some b)) (.string ⟨#[114, 105, 103, 104, 116, 115]⟩) (.agg #[.func (.func 19) #[] #[], .int .i64 0, .int .i64 1])).run Tryz.prog W6 = .ok () W7 ∧
    (Instr.mapUpdate 47 (.map (some b)) (.string ⟨#[105, 100]⟩) (.agg #[.func (.func 20) #[] #[], .int .i64 need, .int .i64 1])).run Tryz.prog W7 = .ok () W8 ∧
    (Instr.mapUpdate 47 (.map (some b)) (.string ⟨#[108, 105, 110, 107]⟩) (.agg #[.func (.func 21) #[] #[], .int .i64 0, .int .i64 1073741824])).run Tryz.prog W8 = .ok () W9 ∧
    (Instr.mapUpdate 47 (.map (some b)) (.string ⟨#[99, 97, 116, 101, 103, 111, 114, 121]⟩) (.agg #[.func (.func 22) #[] #[], .int .i64 0, .int .i64 1073741824])).run Tryz.prog W9 = .ok () W10 ∧
    (Instr.mapUpdate 47 (.map (some b)) (.string ⟨#[99, 111, 110, 116, 101, 110, 116]⟩) (.agg #[.func (.func 23) #[] #[], .int .i64 0, .int .i64 1])).run Tryz.prog W10 = .ok () W11 ∧
    RulesM b (rulesL T need) W11 ∧ w.grownBy W11 (some b) ∧ W11.heap.size = w.heap.size := by
  obtain ⟨W1, e1, h1, g1, s1⟩ := rules_ins h0 ⟨⟨#[97, 117, 116, 104, 111, 114]⟩, 17, 1, 1073741824, T.person⟩ (by simp) (by simp) (by simp)
  obtain ⟨W2, e2, h2, g2, s2⟩ := rules_ins h1 ⟨⟨#[99, 111, 110, 116, 114, 105, 98, 117, 116, 111, 114]⟩, 17, 0, 1073741824, T.person⟩ (by simp) (by simp) (by simp)
  obtain ⟨W3, e3, h3, g3, s3⟩ := rules_ins h2 ⟨⟨#[117, 112, 100, 97, 116, 101, 100]⟩, 18, need, 1, T.moment⟩ (by simp) (by simp) (by simp)
  obtain ⟨W4, e4, h4, g4, s4⟩ := rules_ins h3 ⟨⟨#[112, 117, 98, 108, 105, 115, 104, 101, 100]⟩, 18, 0, 1, T.moment⟩ (by simp) (by simp) (by simp)
  obtain ⟨W5, e5, h5, g5, s5⟩ := rules_ins h4 ⟨⟨#[116, 105, 116, 108, 101]⟩, 19, 1, 1, T.construct⟩ (by simp) (by simp) (by simp)
  obtain ⟨W6, e6, h6, g6, s6⟩ := rules_ins h5 ⟨⟨#[115, 117, 109, 109, 97, 114, 121]⟩, 19, 0, 1, T.construct⟩ (by simp) (by simp) (by simp)
  obtain ⟨W7, e7, h7, g7, s7⟩ := rules_ins h6 ⟨⟨#[114, 105, 103, 104, 116, 115]⟩, 19, 0, 1, T.construct⟩ (by simp) (by simp) (by simp)
  obtain ⟨W8, e8, h8, g8, s8⟩ := rules_ins h7 ⟨⟨#[105, 100]⟩, 20, need, 1, T.id⟩ (by simp) (by simp) (by simp)
  obtain ⟨W9, e9, h9, g9, s9⟩ := rules_ins h8 ⟨⟨#[108, 105, 110, 107]⟩, 21, 0, 1073741824, T.link⟩ (by simp) (by simp) (by simp)
  obtain ⟨W10, e10, h10, g10, s10⟩ := rules_ins h9 ⟨⟨#[99, 97, 116, 101, 103, 111, 114, 121]⟩, 22, 0, 1073741824, T.category⟩ (by simp) (by simp) (by simp)
  obtain ⟨W11, e11, h11, g11, s11⟩ := rules_ins h10 ⟨⟨#[99, 111, 110, 116, 101, 110, 116]⟩, 23, 0, 1, T.content⟩ (by simp) (by simp) (by simp)
  exact ⟨W1, W2, W3, W4, W5, W6, W7, W8, W9, W10, W11, e1, e2, e3, e4, e5, e6, e7, e8, e9, e10, e11, h11, ((((((((((g1.trans g2).trans g3).trans g4).trans g5).trans g6).trans g7).trans g8).trans g9).trans g10).trans g11), by rw [s11, s10, s9, s8, s7, s6, s5, s4, s3, s2, s1]⟩
/-- The rules' functions answer as the tests do. -/
structure Rights (T : Tests) : Prop where
  person : RightOK 17 T.person
  moment : RightOK 18 T.moment
  construct : RightOK 19 T.construct
  id : RightOK 20 T.id
  link : RightOK 21 T.link
  category : RightOK 22 T.category
  content : RightOK 23 T.content
theorem rights_all {T : Tests} (R : Rights T) (need : Int) : ∀ r ∈ rulesL T need, RightOK r.g r.p := by
  intro r hr
  simp only [rulesL, List.mem_cons, List.not_mem_nil, or_false] at hr
  rcases hr with rfl | rfl | rfl | rfl | rfl | rfl | rfl | rfl | rfl | rfl | rfl
  · exact R.person
  · exact R.person
  · exact R.moment
  · exact R.moment
  · exact R.construct
  · exact R.construct
  · exact R.construct
  · exact R.id
  · exact R.link
  · exact R.category
  · exact R.content
/-- The loop over the rules is under way: those that have come fit. -/
def LoopW (b0 b1 rb : Nat) (l : List Rul) (kids : List S25) (w : World) : Prop :=
  ∃ (es : Array MapEntry) (seen : Array Nat), w.heap[b1]? = some (.map es l.length) ∧ es.toList = entsOf 0 l ∧ w.heap[rb]? = some (.mapIter (some b1) l.length seen l.length) ∧ ∀ e ∈ es.toList, seen.contains e.born = true → ∀ r ∈ l, e.key = .string r.name → e.val = r.val → r.fits kids = true
def leftW (b1 rb : Nat) (w : World) : Nat := match w.heap[b1]?, w.heap[rb]? with
  | some (.map es _), some (.mapIter _ _ seen _) => (leftOf es seen).size
  | _, _ => 0
theorem nodup_inj {α β : Type} (f : α → β) : ∀ {l : List α}, (l.map f).Nodup → ∀ {x y : α}, x ∈ l → y ∈ l → f x = f y → x = y
  | [], _, _, _, hx, _, _ => by simp at hx
  | a :: l, h, x, y, hx, hy, e => by
    rw [List.map_cons, List.nodup_cons] at h
    rcases List.mem_cons.1 hx with ex | hx'
    · rcases List.mem_cons.1 hy with ey | hy'
      · rw [ex, ey]
      · exact absurd (List.mem_map.2 ⟨y, hy', by rw [← e, ex]⟩) h.1
    · rcases List.mem_cons.1 hy with ey | hy'
      · exact absurd (List.mem_map.2 ⟨x, hx', by rw [e, ey]⟩) h.1
      · exact nodup_inj f h.2 hx' hy' e
/-- The step: nothing is left, and all fit; or some rule comes. -/
theorem loop_step {b0 b1 rb : Nat} {l : List Rul} {kids : List S25} {w : World} (h : LoopW b0 b1 rb l kids w) (hnd : (l.map (fun q => q.name.data.toList)).Nodup) (hne : b1 ≠ rb) (ty : TypeId) :
    ((∀ r ∈ l, r.fits kids = true) ∧ (Instr.next (.pointer (some ⟨rb, 0, none⟩)) false ty).run Tryz.prog w = .ok (.tuple #[.bool false]) w) ∨
    ∃ r ∈ l, ∃ w', (Instr.next (.pointer (some ⟨rb, 0, none⟩)) false ty).run Tryz.prog w = .ok (.tuple #[.bool true, .string r.name, r.val]) w' ∧ (Instr.entry (.pointer (some ⟨rb, 0, none⟩))).run Tryz.prog w' = .ok (.tuple #[.string r.name, r.val]) w' ∧
      w.grownBy w' (some rb) ∧ w'.heap.size = w.heap.size ∧ leftW b1 rb w' < leftW b1 rb w ∧ (r.fits kids = true → LoopW b0 b1 rb l kids w') := by
  obtain ⟨es, seen, hb, he, hr, hin⟩ := h
  have hold : ∀ x ∈ es.toList, x.born < l.length := fun x hx => by rw [he] at hx; obtain ⟨_, _, _, _, _, h5⟩ := entsOf_mem hx; omega
  rcases run_next_at (P := Tryz.prog) w ty rb b1 l.length l.length seen es l.length hr hb hold (Nat.le_refl _) with ⟨h0, hrun⟩ | ⟨e, hem, w1, hal, hrun⟩
  · refine .inl ⟨fun r hrl => ?_, hrun⟩
    obtain ⟨e, h1, h2, h3⟩ := entsOf_of_mem (i := 0) hrl
    have h4 : e ∈ es.toList := by rw [he]; exact h1
    exact hin e h4 (all_seen es seen h0 e h4) r hrl h2 h3
  · obtain ⟨hm, hns⟩ := mem_left hem
    have hm2 := hm
    rw [he] at hm2
    obtain ⟨r, hrl, hk, hv, _, _⟩ := entsOf_mem hm2
    have hr1 : w1.heap[rb]? = some (.mapIter (some b1) l.length seen l.length) := by rcases hal with rfl | rfl <;> exact hr
    have hb1 : w1.heap[b1]? = some (.map es l.length) := by rcases hal with rfl | rfl <;> exact hb
    have hr2 : (setBlock w1 rb (.mapIter (some b1) l.length (seen.push e.born) l.length)).heap[rb]? = some (.mapIter (some b1) l.length (seen.push e.born) l.length) := sb_same hr1 _
    have hb2 : (setBlock w1 rb (.mapIter (some b1) l.length (seen.push e.born) l.length)).heap[b1]? = some (.map es l.length) := (sb_other _ () hne).trans hb1
    have hnb : (es.toList.map (·.born)).Nodup := by rw [he]; exact entsOf_born l 0
    have hen := run_entry_at (P := Tryz.prog) _ rb b1 l.length seen es l.length e hr2 hb2 hm hnb
    rw [hk, hv] at hrun hen
    refine .inr ⟨r, hrl, _, hrun, hen, ?_, ?_, ?_, fun hf => ⟨es, seen.push e.born, hb2, he, hr2, fun e' he' hs' r' hr' hk' hv' => ?_⟩⟩
    · rcases hal with rfl | rfl <;> exact ⟨rfl, rfl, rfl, by simp [setBlock], fun i _ hi => sb_other _ () (fun e1 => hi (by rw [e1]))⟩
    · rcases hal with rfl | rfl <;> simp [setBlock]
    · unfold leftW
      rw [hb2, hr2, hb, hr]
      exact left_shrinks es seen e hem
    · rw [contains_push] at hs'
      rcases Bool.or_eq_true_iff.1 hs' with h1 | h1
      · exact hin e' he' h1 r' hr' hk' hv'
      · have hbe : e'.born = e.born := by simpa using h1
        have hee : e' = e := nodup_inj (·.born) hnb he' hm hbe
        subst hee
        rw [hk] at hk'
        have hnn : r.name = r'.name := by injection hk'
        have hrr : r = r' := nodup_inj (fun q => q.name.data.toList) hnd hrl hr' (by rw [hnn])
        subst hrr
        exact hf
theorem rules_names (T : Tests) (need : Int) : ((rulesL T need).map (fun q => q.name.data.toList)).Nodup := by
  simp [rulesL]
theorem RulesM.below {b : Nat} {l : List Rul} {w w' : World} (h : RulesM b l w) (hb : Below w.heap.size w w') : RulesM b l w' := by
  obtain ⟨es, h1, h2⟩ := h
  exact ⟨es, blk_below h1 hb, h2⟩
theorem RulesM.lt {b : Nat} {l : List Rul} {w : World} (h : RulesM b l w) : b < w.heap.size := by
  obtain ⟨es, h1, h2⟩ := h
  exact blk_lt h1
theorem LoopW.below {b0 b1 rb : Nat} {l : List Rul} {kids : List S25} {w w' : World} (h : LoopW b0 b1 rb l kids w) (hb : Below w.heap.size w w') : LoopW b0 b1 rb l kids w' ∧ leftW b1 rb w' = leftW b1 rb w := by
  obtain ⟨es, seen, h1, h2, h3, h4⟩ := h
  refine ⟨⟨es, seen, blk_below h1 hb, h2, blk_below h3 hb, h4⟩, ?_⟩
  unfold leftW
  rw [blk_below h1 hb, blk_below h3 hb, h1, h3]
theorem LoopW.lt {b0 b1 rb : Nat} {l : List Rul} {kids : List S25} {w : World} (h : LoopW b0 b1 rb l kids w) : rb < w.heap.size := by
  obtain ⟨es, seen, h1, h2, h3, h4⟩ := h
  exact blk_lt h3
theorem grown_below2 {w a c : World} {rb : Nat} (h : Below w.heap.size w a) (k : a.grownBy c (some rb)) (hr : w.heap.size ≤ rb) : Below w.heap.size w c :=
  h.trans ⟨k.os, k.tape, k.output, k.size, fun j hj => k.block j (Nat.lt_of_lt_of_le hj h.size) (by intro e; injection e with e; omega)⟩
theorem RulesM.loop {b0 b1 : Nat} {l : List Rul} {kids : List S25} {w : World} (h : RulesM b1 l w) : ∃ W', (Instr.range 47 (.map (some b1))).run Tryz.prog w = .ok (.pointer (some ⟨w.heap.size, 0, none⟩)) W' ∧ LoopW b0 b1 w.heap.size l kids W' ∧ Below w.heap.size w W' ∧ W'.heap.size = w.heap.size + 1 := by
  obtain ⟨es, hb, he⟩ := h
  refine ⟨_, run_range_map w 47 9 46 b1 es l.length Tryz.underlying47 hb, ⟨es, #[], blk_alloc hb _, he, heap_alloc_new _ _, fun e he hs => by simp at hs⟩, (Below.refl _ _).alloc (Nat.le_refl _) _, by simp⟩
set_option maxHeartbeats 8000000 in
theorem check_atom {T : Tests} (R : Rights T) (LV : LowerV) (z : Pm) (stored : Bool) (w : World) (hG : LaidW w) (hK : k25.K w z.x z.c.enc) (hS : Sm z.x) :
    Calls Tryz.prog 10 #[.agg z.c.enc.toArray, .bool stored] w fun e w' => e = .returned (.int .i64 (checkN T z.x stored)) ∧ Below w.heap.size w w' := by
  obtain ⟨Z, hZx, hN, hn⟩ := kids_of hK
  have hlen : Z.length ≤ 3000 := by have := hS.len; rw [← hZx, List.length_map] at this; exact this
  have hsm : ∀ y ∈ Z, Sm y.x := fun y hy => hS.kids y.x (by rw [← hZx]; exact List.mem_map.2 ⟨y, hy, rfl⟩)
  have hall : ∀ (name : ByteArray) (w1 : World), Below w.heap.size w w1 → Calls Tryz.prog 26 #[.agg z.c.enc.toArray, .string name] w1 fun e w' => ∃ A' c', e = .returned (.slice A' (allZ Z name).length c') ∧ Nds w' A' (allZ Z name) ∧ Below w1.heap.size w1 w' := fun name w1 hb => all_pm z Z name w1 (k25.K_below hb hK) (hN.below hb) hn hlen
  have hvar : ∀ (A' : Option Addr) (c' : Nat) (w1 : World), Nds w1 A' (allZ Z linkB) → Calls Tryz.prog 25 #[.slice A' (allZ Z linkB).length c'] w1 fun e w' => e = .returned (.bool (variantsV (allV z.x.f4 linkB))) ∧ Below w1.heap.size w1 w' := fun A' c' w1 h => by
    have := variants_any LV A' c' (allZ Z linkB) w1 h (fun y hy => hsm y (List.mem_filter.1 hy).1) (Nat.le_trans (List.length_filter_le _ _) hlen)
    rw [allZ_x, hZx] at this
    exact this
  have hfit : ∀ (r : Rul) (need : Int), r ∈ rulesL T need → ∀ (A' : Option Addr) (c' : Nat) (w1 : World), LaidW w1 → Nds w1 A' (allZ Z r.name) → Calls Tryz.prog 27 #[.agg #[.func (.func r.g) #[] #[], .int .i64 r.least, .int .i64 r.most], .slice A' (allZ Z r.name).length c'] w1 fun e w' => e = .returned (.bool (r.fits z.x.f4)) ∧ Below w1.heap.size w1 w' := fun r need hr A' c' w1 hG1 h => by
    obtain ⟨eg, hro⟩ := rights_all R need r hr
    have hsay : SaysZ (·.c) r.g #[] (fun y : Pm => r.p y.x) (allZ Z r.name) w1 := fun y hy w' hb => hro y w' (hG1.step hb) (k25.K_below hb (h.node y hy)) (hsm y (List.mem_filter.1 hy).1)
    have hf := fits_any (·.c) r.g eg r.least r.most (fun y : Pm => r.p y.x) A' (allZ Z r.name) c' w1 h.cels hsay (Nat.le_trans (List.length_filter_le _ _) (by omega))
    have he : fitsV r.least r.most (fun y : Pm => r.p y.x) (allZ Z r.name) = r.fits z.x.f4 := by
      unfold Rul.fits
      rw [← hZx, ← allZ_x]
      unfold fitsV
      rw [List.length_map, List.all_map]
      rfl
    rw [he] at hf
    exact hf
  have hisv : ∀ w1 : World, Calls Tryz.prog 24 #[.agg z.c.enc.toArray, .string atomB, .string entryB] w1 fun e w' => e = .returned (.bool (isV z.x atomB entryB)) ∧ Below w1.heap.size w1 w' := fun w1 => by
    obtain ⟨x, ⟨y0, y1, y2, A3, n3, c3, A4, n4, c4, y5⟩, e0, e1, e2, e3, e4, e5⟩ := z
    simp only at e0 e1 e2 e3 e4 e5
    subst e0 e1 e2 e3 e4 e5
    exact is_any x _ _ rfl rfl A3 A4 _ c3 _ c4 rfl rfl atomB entryB w1
  obtain ⟨C, hC⟩ : ∃ C, checkN T z.x stored = C := ⟨_, rfl⟩
  rw [hC]
  unfold checkN at hC
  obtain ⟨need, hneed⟩ : ∃ n : Int, n = if stored = true then 1 else 0 := ⟨_, rfl⟩
  rw [← hneed] at hC
  generalize isV z.x atomB entryB = bi at hisv hC
  generalize variantsV (allV z.x.f4 linkB) = bv at hvar hC
  generalize z.x.f4 = kids at hC hfit
  obtain ⟨x, ⟨y0, y1, y2, A3, n3, c3, A4, n4, c4, y5⟩, e0, e1, e2, e3, e4, e5⟩ := z
  simp only at hall hisv
  show Calls Tryz.prog 10 #[.agg #[.int .i64 y0, .string y1, .string y2, .slice A3 n3 c3, .slice A4 n4 c4, .string y5], .bool stored] w fun e w' => e = .returned (.int .i64 C) ∧ Below w.heap.size w w'
  have hall' : ∀ (name : ByteArray) (w1 : World), Below w.heap.size w w1 → Calls Tryz.prog 26 #[.agg #[.int .i64 y0, .string y1, .string y2, .slice A3 n3 c3, .slice A4 n4 c4, .string y5], .string name] w1 fun e w' => ∃ A' c', e = .returned (.slice A' (allZ Z name).length c') ∧ Nds w' A' (allZ Z name) ∧ Below w1.heap.size w1 w' := hall
  have hisv' : ∀ w1 : World, Calls Tryz.prog 24 #[.agg #[.int .i64 y0, .string y1, .string y2, .slice A3 n3 c3, .slice A4 n4 c4, .string y5], .string ⟨#[104, 116, 116, 112, 58, 47, 47, 119, 119, 119, 46, 119, 51, 46, 111, 114, 103, 47, 50, 48, 48, 53, 47, 65, 116, 111, 109]⟩, .string ⟨#[101, 110, 116, 114, 121]⟩] w1 fun e w' => e = .returned (.bool bi) ∧ Below w1.heap.size w1 w' := hisv
  have HALL := Lib.hid hall'
  have HVAR := Lib.hid hvar
  have HFIT := Lib.hid hfit
  have HISV := Lib.hid hisv'
  have HC := Lib.hid hC
  have HG := Lib.hid hG
  clear hall hall' hvar hfit hisv hisv' hC hG hK hS hN hn hlen hsm hZx e0 e1 e2 e3 e4 e5 R LV
  have hW0 : RulesM (w.heap.size + 1) [] ((w.alloc (.cells #[.int .i64 y0, .string y1, .string y2, .slice A3 n3 c3, .slice A4 n4 c4, .string y5] 25)).alloc (.map #[] 0)) := by
    have h := rules_new (w.alloc (.cells #[.int .i64 y0, .string y1, .string y2, .slice A3 n3 c3, .slice A4 n4 c4, .string y5] 25))
    rwa [show (w.alloc (.cells #[.int .i64 y0, .string y1, .string y2, .slice A3 n3 c3, .slice A4 n4 c4, .string y5] 25)).heap.size = w.heap.size + 1 from Array.size_push _] at h
  obtain ⟨W1, W2, W3, W4, W5, W6, W7, W8, W9, W10, W11, h1, h2, h3, h4, h5, h6, h7, h8, h9, h10, h11, hrm, hgr, hsz⟩ := rules_built T need (w.heap.size + 1) _ hW0
  have hsz' : W11.heap.size = w.heap.size + 2 := by rw [hsz]; simp
  have hB11 : Below w.heap.size w W11 := by
    have h0 : Below w.heap.size w ((w.alloc (.cells #[.int .i64 y0, .string y1, .string y2, .slice A3 n3 c3, .slice A4 n4 c4, .string y5] 25)).alloc (.map #[] 0)) := ((Below.refl _ _).alloc (Nat.le_refl _) _).alloc (by simp) _
    exact h0.trans ⟨hgr.os, hgr.tape, hgr.output, hgr.size, fun k hk => hgr.block k (by simp; omega) (by intro e; injection e with e; omega)⟩
  have hbx : W11.heap[w.heap.size]? = some (.cells #[.int .i64 y0, .string y1, .string y2, .slice A3 n3 c3, .slice A4 n4 c4, .string y5] 25 (0, 0)) := (hgr.block _ (by simp; omega) (by simp)).trans (blk_alloc (heap_alloc_new w _) _)
  have HRM := Lib.hid hrm
  have HSZ := Lib.hid hsz'
  have HB11 := Lib.hid hB11
  have HBX := Lib.hid hbx
  have hmm := @run_makeMap Tryz.prog
  clear hrm hgr hsz hsz' hB11 hbx hW0
  obtain ⟨k0, k1, k2, k3, k4, k5⟩ := box6 HBX.out
  cases stored with
  | true =>
    obtain rfl : need = 1 := hneed
    go_enter Tryz.func10, Tryz.ntmps10
    go_wp2_with fail
    clear h1 h2 h3 h4 h5 h6 h7 h8 h9 h10 h11 hmm k0 k1 k2 k3 k4 k5
    refine (HISV.out W11).mono ?_
    rintro e w1 ⟨rfl, hb1⟩
    have HB1 := Lib.hid (HB11.out.trans (hb1.mono HB11.out.size))
    have HBX1 := Lib.hid (blk_below HBX.out hb1)
    have HRM1 := Lib.hid (HRM.out.below hb1)
    clear hb1
    cases bi with
    | false =>
      have hc : C = 150 := by rw [← HC.out]; rfl
      have HC2 := Lib.hid hc
      clear hc
      go_wp2_with fail
      go_ret
      exact ⟨by rw [HC2.out]; rfl, HB1.out⟩
    | true =>
      obtain ⟨k0, k1, k2, k3, k4, k5⟩ := box6 HBX1.out
      go_wp2_with (first | (go_at_call 26; refine (HALL.out ⟨#[108, 105, 110, 107]⟩ _ HB1.out).mono ?_))
      rintro e w2 ⟨A2, c2, rfl, hN2, hb2⟩
      have HB2 := Lib.hid (HB1.out.trans (hb2.mono HB1.out.size))
      have HBX2 := Lib.hid (blk_below HBX1.out hb2)
      have HRM2 := Lib.hid (HRM1.out.below hb2)
      have HV2 := Lib.hid (HVAR.out A2 c2 w2 hN2)
      clear hb2 hN2 k0 k1 k2 k3 k4 k5
      go_wp2_with (first | (go_at_call 25; refine HV2.out.mono ?_))
      rintro e w3 ⟨rfl, hb3⟩
      have HB3 := Lib.hid (HB2.out.trans (hb3.mono HB2.out.size))
      have HBX3 := Lib.hid (blk_below HBX2.out hb3)
      have HRM3 := Lib.hid (HRM2.out.below hb3)
      clear hb3
      cases bv with
      | false =>
        have hc : C = 150 := by rw [← HC.out]; rfl
        have HC2 := Lib.hid hc
        clear hc
        go_wp2_with fail
        go_ret
        exact ⟨by rw [HC2.out]; rfl, HB3.out⟩
      | true =>
        obtain ⟨W', hrun, hlw, hbw, hsw⟩ := RulesM.loop (b0 := w.heap.size) (kids := kids) HRM3.out
        have hlt1 := HRM3.out.lt
        have HLT1 := Lib.hid hlt1
        have HLW := Lib.hid hlw
        have HBW := Lib.hid hbw
        clear hlw hbw hsw hlt1
        go_wp2_with fail
        clear hrun
        go_loopg [7] (leftW (w.heap.size + 1) w3.heap.size W' + 1) (fun kx s7 wr => leftW (w.heap.size + 1) w3.heap.size wr < kx ∧ Hid (Below w.heap.size w wr ∧ LoopW w.heap.size (w.heap.size + 1) w3.heap.size (rulesL T 1) kids wr ∧ wr.heap[w.heap.size]? = some (.cells #[.int .i64 y0, .string y1, .string y2, .slice A3 n3 c3, .slice A4 n4 c4, .string y5] 25 (0, 0))))
        case atStart => exact ⟨Nat.lt_succ_self _, HB3.out.trans (HBW.out.mono HB3.out.size), HLW.out, blk_below HBX3.out HBW.out⟩
        case round =>
          obtain ⟨hkx, HW⟩ := hrel
          have HKX := Lib.hid hkx
          clear hkx
          rcases loop_step HW.out.2.1 (rules_names T 1) (by have := HLT1.out; omega) 0 with ⟨hfits, hnx⟩ | ⟨r, hr, wn, hnx, hen, hgw, hszn, hlt, hnext⟩
          · have hc : C = 0 := by rw [← HC.out, List.all_eq_true.2 hfits]; rfl
            have HC2 := Lib.hid hc
            clear hc hfits
            go_wp2_with fail
            go_ret
            exact ⟨by rw [HC2.out]; rfl, HW.out.1⟩
          · have hbn : Below w.heap.size w wn := grown_below2 HW.out.1 hgw (by have := HLT1.out; omega)
            have hbxn : wn.heap[w.heap.size]? = some (.cells #[.int .i64 y0, .string y1, .string y2, .slice A3 n3 c3, .slice A4 n4 c4, .string y5] 25 (0, 0)) := (hgw.block _ (blk_lt HW.out.2.2) (by intro e; injection e with e; have := HLT1.out; omega)).trans HW.out.2.2
            rw [show r.val = .agg #[.func (.func r.g) #[] #[], .int .i64 r.least, .int .i64 r.most] from rfl] at hnx hen
            have HBN := Lib.hid hbn
            have HBXN := Lib.hid hbxn
            have HLT := Lib.hid hlt
            have HNX := Lib.hid hnext
            have HRL := Lib.hid hr
            clear hbn hbxn hgw hszn hlt hnext hr
            go_wp2_with fail
            clear hnx hen
            have hn1 := blk_drew (blk_alloc HBXN.out (.cells #[.func (.func r.g) #[] #[], .int .i64 r.least, .int .i64 r.most] 46))
            have hn2 := blk_drew (blk_new wn (.cells #[.func (.func r.g) #[] #[], .int .i64 r.least, .int .i64 r.most] 46))
            have hb6 : Below wn.heap.size wn (wn.alloc (.cells #[.func (.func r.g) #[] #[], .int .i64 r.least, .int .i64 r.most] 46)).drew := ((Below.refl _ _).alloc (Nat.le_refl _) _).drew
            generalize (wn.alloc (.cells #[.func (.func r.g) #[] #[], .int .i64 r.least, .int .i64 r.most] 46)) = W6 at hn1 hn2 hb6 ⊢
            refine start_ (n := 6) (S := fun w' => w'.cell? ⟨wn.heap.size, 0, none⟩ = some (.func (.func r.g) #[] #[]) ∧ w'.cell? ⟨wn.heap.size, 1, none⟩ = some (.int .i64 r.least) ∧ w'.cell? ⟨wn.heap.size, 2, none⟩ = some (.int .i64 r.most) ∧ w'.cell? ⟨w.heap.size, 0, none⟩ = some (.int .i64 y0) ∧ w'.cell? ⟨w.heap.size, 1, none⟩ = some (.string y1) ∧ w'.cell? ⟨w.heap.size, 2, none⟩ = some (.string y2) ∧ w'.cell? ⟨w.heap.size, 3, none⟩ = some (.slice A3 n3 c3) ∧ w'.cell? ⟨w.heap.size, 4, none⟩ = some (.slice A4 n4 c4) ∧ w'.cell? ⟨w.heap.size, 5, none⟩ = some (.string y5)) (ds := []) #[false, false, false, false, false, false] (by kernel_rfl) rfl rfl ⟨(blk_cell hn2 0).trans rfl, (blk_cell hn2 1).trans rfl, (blk_cell hn2 2).trans rfl, (blk_cell hn1 0).trans rfl, (blk_cell hn1 1).trans rfl, (blk_cell hn1 2).trans rfl, (blk_cell hn1 3).trans rfl, (blk_cell hn1 4).trans rfl, (blk_cell hn1 5).trans rfl⟩ (fun hHeld => ?_)
            generalize W6.drew = W7 at hn1 hn2 hb6 hHeld ⊢
            have HN1 := Lib.hid hn1
            have HN2 := Lib.hid hn2
            have HB6 := Lib.hid hb6
            have HB7 := Lib.hid (HBN.out.trans (hb6.mono HBN.out.size))
            clear hn1 hn2 hb6
            refine take_ (i := 0) (N := some 41) (v := ?_) (a' := ?_) #[true, false, false, false, false, false] rfl rfl (by kernel_rfl) (fun _ _ _ h => h) (Or.inl ⟨by rfl, ?_⟩) hHeld ?_ ?_
            rotate_left
            · rintro w' ⟨s0, s1, s2, s3, s4, s5, s6, s7, s8⟩
              go_simp
              with_reducible rfl
            rotate_left
            · simp only [Act.put, List.setIfInBounds_toArray, List.set_cons_zero, List.set_cons_succ, i64_w, i32_w]
              rfl
            refine take_ (i := 1) (N := some 42) (v := ?_) (a' := ?_) #[true, true, false, false, false, false] rfl rfl (by kernel_rfl) (fun _ _ _ h => h) (Or.inl ⟨by rfl, ?_⟩) hHeld ?_ ?_
            rotate_left
            · rintro w' ⟨s0, s1, s2, s3, s4, s5, s6, s7, s8⟩
              go_simp
              with_reducible rfl
            rotate_left
            · simp only [Act.put, List.setIfInBounds_toArray, List.set_cons_zero, List.set_cons_succ, i64_w, i32_w]
              rfl
            refine pure_ (i := 2) (N := some 43) (v := ?_) (a' := ?_) #[true, true, true, false, false, false] rfl rfl (by kernel_rfl) (fun _ _ _ h => h) (Or.inl ⟨by rfl, ?_⟩) ?_ ?_
            rotate_left
            · intro w'
              go_simp
              with_reducible rfl
            rotate_left
            · simp only [Act.put, List.setIfInBounds_toArray, List.set_cons_zero, List.set_cons_succ, i64_w, i32_w]
              rfl
            refine one_ (i := 3) (N := some 44) #[true, true, true, true, false, false] rfl rfl (by kernel_rfl) (by decide) (fun K hK => ?_)
            refine goes_ Tryz.func26 (by kernel_rfl) rfl #[.agg #[.int .i64 y0, .string y1, .string y2, .slice A3 n3 c3, .slice A4 n4 c4, .string y5], .string r.name] (by rfl) rfl rfl (by (try simp only [List.map_toArray, List.map_cons, List.map_nil]); first | done | rfl) ?_
            refine (HALL.out r.name _ HB7.out).mono ?_
            rintro e w8 ⟨A8, c8, rfl, hN8, hb8⟩
            refine ⟨_, rfl, ?_⟩
            have HB8 := Lib.hid (HB6.out.trans (hb8.mono HB6.out.size))
            have HN18 := Lib.hid (blk_below HN1.out hb8)
            have HN28 := Lib.hid (blk_below HN2.out hb8)
            have HN8 := Lib.hid hN8
            clear hb8 hN8
            refine hK.out _ _ ⟨(blk_cell HN28.out 0).trans rfl, (blk_cell HN28.out 1).trans rfl, (blk_cell HN28.out 2).trans rfl, (blk_cell HN18.out 0).trans rfl, (blk_cell HN18.out 1).trans rfl, (blk_cell HN18.out 2).trans rfl, (blk_cell HN18.out 3).trans rfl, (blk_cell HN18.out 4).trans rfl, (blk_cell HN18.out 5).trans rfl⟩ (fun hHeld => ?_)
            clear hK K
            refine norm_ (a' := ?_) ?_ ?_
            rotate_left
            · show Act.put _ (some 44) _ = _
              simp only [Act.put, List.setIfInBounds_toArray, List.set_cons_zero, List.set_cons_succ, i64_w, i32_w]
              rfl
            refine one_ (i := 4) (N := some 45) #[true, true, true, true, true, false] rfl rfl (by kernel_rfl) (by decide) (fun K hK => ?_)
            refine goes_ Tryz.func27 (by kernel_rfl) rfl #[.agg #[.func (.func r.g) #[] #[], .int .i64 r.least, .int .i64 r.most], .slice A8 (allZ Z r.name).length c8] (by rfl) rfl rfl (by (try simp only [List.map_toArray, List.map_cons, List.map_nil]); first | done | rfl) ?_
            refine (HFIT.out r 1 HRL.out A8 c8 _ (HG.out.step (HBN.out.trans (HB8.out.mono HBN.out.size))) HN8.out).mono ?_
            rintro e w9 ⟨rfl, hb9⟩
            refine ⟨_, rfl, ?_⟩
            have HB9 := Lib.hid (HB8.out.trans (hb9.mono HB8.out.size))
            have HN19 := Lib.hid (blk_below HN18.out hb9)
            have HN29 := Lib.hid (blk_below HN28.out hb9)
            clear hb9
            refine hK.out _ _ ⟨(blk_cell HN29.out 0).trans rfl, (blk_cell HN29.out 1).trans rfl, (blk_cell HN29.out 2).trans rfl, (blk_cell HN19.out 0).trans rfl, (blk_cell HN19.out 1).trans rfl, (blk_cell HN19.out 2).trans rfl, (blk_cell HN19.out 3).trans rfl, (blk_cell HN19.out 4).trans rfl, (blk_cell HN19.out 5).trans rfl⟩ (fun hHeld => ?_)
            clear hK K
            refine norm_ (a' := ?_) ?_ ?_
            rotate_left
            · show Act.put _ (some 45) _ = _
              simp only [Act.put, List.setIfInBounds_toArray, List.set_cons_zero, List.set_cons_succ, i64_w, i32_w]
              rfl
            refine pure_ (i := 5) (N := some 46) (v := ?_) (a' := ?_) #[true, true, true, true, true, true] rfl rfl (by kernel_rfl) (fun _ _ _ h => h) (Or.inl ⟨by rfl, ?_⟩) ?_ ?_
            rotate_left
            · intro w'
              go_simp
              with_reducible rfl
            rotate_left
            · simp only [Act.put, List.setIfInBounds_toArray, List.set_cons_zero, List.set_cons_succ, i64_w, i32_w]
              rfl
            refine done_ (by kernel_rfl) ?_
            clear hHeld
            obtain ⟨fb, hfb⟩ : ∃ b, r.fits kids = b := ⟨_, rfl⟩
            rw [hfb]
            have HFB := Lib.hid hfb
            clear hfb
            cases fb with
            | false =>
              have hc : C = 150 := by
                rw [← HC.out]
                cases hall : (rulesL T 1).all fun r => r.fits kids with
                | false => rfl
                | true => have := List.all_eq_true.1 hall r HRL.out; rw [HFB.out] at this; cases this
              have HC2 := Lib.hid hc
              clear hc
              go_wp2_with fail
              go_ret
              exact ⟨by rw [HC2.out]; rfl, HBN.out.trans (HB9.out.mono HBN.out.size)⟩
            | true =>
              have hln := (HNX.out HFB.out).below HB9.out
              have HLN := Lib.hid hln
              clear hln
              go_wp2_with fail
              go_roundg (leftW (w.heap.size + 1) w3.heap.size w9 + 1)
              case measure => have := HLT.out; have := HKX.out; have := HLN.out.2; omega
              case rel => exact ⟨Nat.lt_succ_self _, HBN.out.trans (HB9.out.mono HBN.out.size), HLN.out.1, HN19.out⟩
  | false =>
    obtain rfl : need = 0 := hneed
    go_enter Tryz.func10, Tryz.ntmps10
    go_wp2_with fail
    clear h1 h2 h3 h4 h5 h6 h7 h8 h9 h10 h11 hmm k0 k1 k2 k3 k4 k5
    refine (HISV.out W11).mono ?_
    rintro e w1 ⟨rfl, hb1⟩
    have HB1 := Lib.hid (HB11.out.trans (hb1.mono HB11.out.size))
    have HBX1 := Lib.hid (blk_below HBX.out hb1)
    have HRM1 := Lib.hid (HRM.out.below hb1)
    clear hb1
    cases bi with
    | false =>
      have hc : C = 150 := by rw [← HC.out]; rfl
      have HC2 := Lib.hid hc
      clear hc
      go_wp2_with fail
      go_ret
      exact ⟨by rw [HC2.out]; rfl, HB1.out⟩
    | true =>
      obtain ⟨k0, k1, k2, k3, k4, k5⟩ := box6 HBX1.out
      go_wp2_with (first | (go_at_call 26; refine (HALL.out ⟨#[108, 105, 110, 107]⟩ _ HB1.out).mono ?_))
      rintro e w2 ⟨A2, c2, rfl, hN2, hb2⟩
      have HB2 := Lib.hid (HB1.out.trans (hb2.mono HB1.out.size))
      have HBX2 := Lib.hid (blk_below HBX1.out hb2)
      have HRM2 := Lib.hid (HRM1.out.below hb2)
      have HV2 := Lib.hid (HVAR.out A2 c2 w2 hN2)
      clear hb2 hN2 k0 k1 k2 k3 k4 k5
      go_wp2_with (first | (go_at_call 25; refine HV2.out.mono ?_))
      rintro e w3 ⟨rfl, hb3⟩
      have HB3 := Lib.hid (HB2.out.trans (hb3.mono HB2.out.size))
      have HBX3 := Lib.hid (blk_below HBX2.out hb3)
      have HRM3 := Lib.hid (HRM2.out.below hb3)
      clear hb3
      cases bv with
      | false =>
        have hc : C = 150 := by rw [← HC.out]; rfl
        have HC2 := Lib.hid hc
        clear hc
        go_wp2_with fail
        go_ret
        exact ⟨by rw [HC2.out]; rfl, HB3.out⟩
      | true =>
        obtain ⟨W', hrun, hlw, hbw, hsw⟩ := RulesM.loop (b0 := w.heap.size) (kids := kids) HRM3.out
        have hlt1 := HRM3.out.lt
        have HLT1 := Lib.hid hlt1
        have HLW := Lib.hid hlw
        have HBW := Lib.hid hbw
        clear hlw hbw hsw hlt1
        go_wp2_with fail
        clear hrun
        go_loopg [7] (leftW (w.heap.size + 1) w3.heap.size W' + 1) (fun kx s7 wr => leftW (w.heap.size + 1) w3.heap.size wr < kx ∧ Hid (Below w.heap.size w wr ∧ LoopW w.heap.size (w.heap.size + 1) w3.heap.size (rulesL T 0) kids wr ∧ wr.heap[w.heap.size]? = some (.cells #[.int .i64 y0, .string y1, .string y2, .slice A3 n3 c3, .slice A4 n4 c4, .string y5] 25 (0, 0))))
        case atStart => exact ⟨Nat.lt_succ_self _, HB3.out.trans (HBW.out.mono HB3.out.size), HLW.out, blk_below HBX3.out HBW.out⟩
        case round =>
          obtain ⟨hkx, HW⟩ := hrel
          have HKX := Lib.hid hkx
          clear hkx
          rcases loop_step HW.out.2.1 (rules_names T 0) (by have := HLT1.out; omega) 0 with ⟨hfits, hnx⟩ | ⟨r, hr, wn, hnx, hen, hgw, hszn, hlt, hnext⟩
          · have hc : C = 0 := by rw [← HC.out, List.all_eq_true.2 hfits]; rfl
            have HC2 := Lib.hid hc
            clear hc hfits
            go_wp2_with fail
            go_ret
            exact ⟨by rw [HC2.out]; rfl, HW.out.1⟩
          · have hbn : Below w.heap.size w wn := grown_below2 HW.out.1 hgw (by have := HLT1.out; omega)
            have hbxn : wn.heap[w.heap.size]? = some (.cells #[.int .i64 y0, .string y1, .string y2, .slice A3 n3 c3, .slice A4 n4 c4, .string y5] 25 (0, 0)) := (hgw.block _ (blk_lt HW.out.2.2) (by intro e; injection e with e; have := HLT1.out; omega)).trans HW.out.2.2
            rw [show r.val = .agg #[.func (.func r.g) #[] #[], .int .i64 r.least, .int .i64 r.most] from rfl] at hnx hen
            have HBN := Lib.hid hbn
            have HBXN := Lib.hid hbxn
            have HLT := Lib.hid hlt
            have HNX := Lib.hid hnext
            have HRL := Lib.hid hr
            clear hbn hbxn hgw hszn hlt hnext hr
            go_wp2_with fail
            clear hnx hen
            have hn1 := blk_drew (blk_alloc HBXN.out (.cells #[.func (.func r.g) #[] #[], .int .i64 r.least, .int .i64 r.most] 46))
            have hn2 := blk_drew (blk_new wn (.cells #[.func (.func r.g) #[] #[], .int .i64 r.least, .int .i64 r.most] 46))
            have hb6 : Below wn.heap.size wn (wn.alloc (.cells #[.func (.func r.g) #[] #[], .int .i64 r.least, .int .i64 r.most] 46)).drew := ((Below.refl _ _).alloc (Nat.le_refl _) _).drew
            generalize (wn.alloc (.cells #[.func (.func r.g) #[] #[], .int .i64 r.least, .int .i64 r.most] 46)) = W6 at hn1 hn2 hb6 ⊢
            refine start_ (n := 6) (S := fun w' => w'.cell? ⟨wn.heap.size, 0, none⟩ = some (.func (.func r.g) #[] #[]) ∧ w'.cell? ⟨wn.heap.size, 1, none⟩ = some (.int .i64 r.least) ∧ w'.cell? ⟨wn.heap.size, 2, none⟩ = some (.int .i64 r.most) ∧ w'.cell? ⟨w.heap.size, 0, none⟩ = some (.int .i64 y0) ∧ w'.cell? ⟨w.heap.size, 1, none⟩ = some (.string y1) ∧ w'.cell? ⟨w.heap.size, 2, none⟩ = some (.string y2) ∧ w'.cell? ⟨w.heap.size, 3, none⟩ = some (.slice A3 n3 c3) ∧ w'.cell? ⟨w.heap.size, 4, none⟩ = some (.slice A4 n4 c4) ∧ w'.cell? ⟨w.heap.size, 5, none⟩ = some (.string y5)) (ds := []) #[false, false, false, false, false, false] (by kernel_rfl) rfl rfl ⟨(blk_cell hn2 0).trans rfl, (blk_cell hn2 1).trans rfl, (blk_cell hn2 2).trans rfl, (blk_cell hn1 0).trans rfl, (blk_cell hn1 1).trans rfl, (blk_cell hn1 2).trans rfl, (blk_cell hn1 3).trans rfl, (blk_cell hn1 4).trans rfl, (blk_cell hn1 5).trans rfl⟩ (fun hHeld => ?_)
            generalize W6.drew = W7 at hn1 hn2 hb6 hHeld ⊢
            have HN1 := Lib.hid hn1
            have HN2 := Lib.hid hn2
            have HB6 := Lib.hid hb6
            have HB7 := Lib.hid (HBN.out.trans (hb6.mono HBN.out.size))
            clear hn1 hn2 hb6
            refine take_ (i := 0) (N := some 41) (v := ?_) (a' := ?_) #[true, false, false, false, false, false] rfl rfl (by kernel_rfl) (fun _ _ _ h => h) (Or.inl ⟨by rfl, ?_⟩) hHeld ?_ ?_
            rotate_left
            · rintro w' ⟨s0, s1, s2, s3, s4, s5, s6, s7, s8⟩
              go_simp
              with_reducible rfl
            rotate_left
            · simp only [Act.put, List.setIfInBounds_toArray, List.set_cons_zero, List.set_cons_succ, i64_w, i32_w]
              rfl
            refine take_ (i := 1) (N := some 42) (v := ?_) (a' := ?_) #[true, true, false, false, false, false] rfl rfl (by kernel_rfl) (fun _ _ _ h => h) (Or.inl ⟨by rfl, ?_⟩) hHeld ?_ ?_
            rotate_left
            · rintro w' ⟨s0, s1, s2, s3, s4, s5, s6, s7, s8⟩
              go_simp
              with_reducible rfl
            rotate_left
            · simp only [Act.put, List.setIfInBounds_toArray, List.set_cons_zero, List.set_cons_succ, i64_w, i32_w]
              rfl
            refine pure_ (i := 2) (N := some 43) (v := ?_) (a' := ?_) #[true, true, true, false, false, false] rfl rfl (by kernel_rfl) (fun _ _ _ h => h) (Or.inl ⟨by rfl, ?_⟩) ?_ ?_
            rotate_left
            · intro w'
              go_simp
              with_reducible rfl
            rotate_left
            · simp only [Act.put, List.setIfInBounds_toArray, List.set_cons_zero, List.set_cons_succ, i64_w, i32_w]
              rfl
            refine one_ (i := 3) (N := some 44) #[true, true, true, true, false, false] rfl rfl (by kernel_rfl) (by decide) (fun K hK => ?_)
            refine goes_ Tryz.func26 (by kernel_rfl) rfl #[.agg #[.int .i64 y0, .string y1, .string y2, .slice A3 n3 c3, .slice A4 n4 c4, .string y5], .string r.name] (by rfl) rfl rfl (by (try simp only [List.map_toArray, List.map_cons, List.map_nil]); first | done | rfl) ?_
            refine (HALL.out r.name _ HB7.out).mono ?_
            rintro e w8 ⟨A8, c8, rfl, hN8, hb8⟩
            refine ⟨_, rfl, ?_⟩
            have HB8 := Lib.hid (HB6.out.trans (hb8.mono HB6.out.size))
            have HN18 := Lib.hid (blk_below HN1.out hb8)
            have HN28 := Lib.hid (blk_below HN2.out hb8)
            have HN8 := Lib.hid hN8
            clear hb8 hN8
            refine hK.out _ _ ⟨(blk_cell HN28.out 0).trans rfl, (blk_cell HN28.out 1).trans rfl, (blk_cell HN28.out 2).trans rfl, (blk_cell HN18.out 0).trans rfl, (blk_cell HN18.out 1).trans rfl, (blk_cell HN18.out 2).trans rfl, (blk_cell HN18.out 3).trans rfl, (blk_cell HN18.out 4).trans rfl, (blk_cell HN18.out 5).trans rfl⟩ (fun hHeld => ?_)
            clear hK K
            refine norm_ (a' := ?_) ?_ ?_
            rotate_left
            · show Act.put _ (some 44) _ = _
              simp only [Act.put, List.setIfInBounds_toArray, List.set_cons_zero, List.set_cons_succ, i64_w, i32_w]
              rfl
            refine one_ (i := 4) (N := some 45) #[true, true, true, true, true, false] rfl rfl (by kernel_rfl) (by decide) (fun K hK => ?_)
            refine goes_ Tryz.func27 (by kernel_rfl) rfl #[.agg #[.func (.func r.g) #[] #[], .int .i64 r.least, .int .i64 r.most], .slice A8 (allZ Z r.name).length c8] (by rfl) rfl rfl (by (try simp only [List.map_toArray, List.map_cons, List.map_nil]); first | done | rfl) ?_
            refine (HFIT.out r 0 HRL.out A8 c8 _ (HG.out.step (HBN.out.trans (HB8.out.mono HBN.out.size))) HN8.out).mono ?_
            rintro e w9 ⟨rfl, hb9⟩
            refine ⟨_, rfl, ?_⟩
            have HB9 := Lib.hid (HB8.out.trans (hb9.mono HB8.out.size))
            have HN19 := Lib.hid (blk_below HN18.out hb9)
            have HN29 := Lib.hid (blk_below HN28.out hb9)
            clear hb9
            refine hK.out _ _ ⟨(blk_cell HN29.out 0).trans rfl, (blk_cell HN29.out 1).trans rfl, (blk_cell HN29.out 2).trans rfl, (blk_cell HN19.out 0).trans rfl, (blk_cell HN19.out 1).trans rfl, (blk_cell HN19.out 2).trans rfl, (blk_cell HN19.out 3).trans rfl, (blk_cell HN19.out 4).trans rfl, (blk_cell HN19.out 5).trans rfl⟩ (fun hHeld => ?_)
            clear hK K
            refine norm_ (a' := ?_) ?_ ?_
            rotate_left
            · show Act.put _ (some 45) _ = _
              simp only [Act.put, List.setIfInBounds_toArray, List.set_cons_zero, List.set_cons_succ, i64_w, i32_w]
              rfl
            refine pure_ (i := 5) (N := some 46) (v := ?_) (a' := ?_) #[true, true, true, true, true, true] rfl rfl (by kernel_rfl) (fun _ _ _ h => h) (Or.inl ⟨by rfl, ?_⟩) ?_ ?_
            rotate_left
            · intro w'
              go_simp
              with_reducible rfl
            rotate_left
            · simp only [Act.put, List.setIfInBounds_toArray, List.set_cons_zero, List.set_cons_succ, i64_w, i32_w]
              rfl
            refine done_ (by kernel_rfl) ?_
            clear hHeld
            obtain ⟨fb, hfb⟩ : ∃ b, r.fits kids = b := ⟨_, rfl⟩
            rw [hfb]
            have HFB := Lib.hid hfb
            clear hfb
            cases fb with
            | false =>
              have hc : C = 150 := by
                rw [← HC.out]
                cases hall : (rulesL T 0).all fun r => r.fits kids with
                | false => rfl
                | true => have := List.all_eq_true.1 hall r HRL.out; rw [HFB.out] at this; cases this
              have HC2 := Lib.hid hc
              clear hc
              go_wp2_with fail
              go_ret
              exact ⟨by rw [HC2.out]; rfl, HBN.out.trans (HB9.out.mono HBN.out.size)⟩
            | true =>
              have hln := (HNX.out HFB.out).below HB9.out
              have HLN := Lib.hid hln
              clear hln
              go_wp2_with fail
              go_roundg (leftW (w.heap.size + 1) w3.heap.size w9 + 1)
              case measure => have := HLT.out; have := HKX.out; have := HLN.out.2; omega
              case rel => exact ⟨Nat.lt_succ_self _, HBN.out.trans (HB9.out.mono HBN.out.size), HLN.out.1, HN19.out⟩
end Go.Proofs.YtcplaafmelcndaaGreatDoor.At
