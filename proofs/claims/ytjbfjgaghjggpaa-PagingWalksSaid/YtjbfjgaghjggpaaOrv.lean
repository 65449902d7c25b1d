/- The program's order of members, told of members as values (Kd.V). -/
import Derived.Test.YtjbfjgaghjggpaaOrdw
import Derived.Test.YtjbfjgaghjggpaaPrx0
set_option linter.unusedVariables false
namespace Go.Proofs.Ytjbfjgaghjggpaa.Srt
open Go.Shelf Go.RowKit Go.Lib Go.Sort Go.Proofs.Ytjbfjgaghjggpaa.Mrg Go.Proofs.Ytjbfjgaghjggpaa.Pr Go.Proofs.YtjbfjgaghjggpaaW.PrintWords Go.Proofs.YtjbfjgaghjggpaaW.PrintMore

/-- Does a member stand ahead of another one? -/
def ltM (a b : S32) : Bool := decide (b.f1 < a.f1 ∨ b.f1 = a.f1 ∧ b.f0 < a.f0)
/-- A member and its cells. -/
structure Pm where
  x : S32
  c : Cel
  h : c.num = x.f0 ∧ c.ed = x.f1
def ltP (a b : Pm) : Bool := ltM a.x b.x
theorem ltP_cel (a b : Pm) : ltOf cmpCel a.c b.c = ltP a b := by
  rw [ltOf_cel]; unfold ltP ltM; rw [a.h.1, a.h.2, b.h.1, b.h.2]
theorem ins_map {α β : Type} (f : α → β) (lt : α → α → Bool) (lt' : β → β → Bool) (h : ∀ a b, lt' (f a) (f b) = lt a b) (x : α) (l : List α) : ins lt' (f x) (l.map f) = (ins lt x l).map f := by
  induction l with
  | nil => rfl
  | cons y l ih =>
    rw [List.map_cons, ins, ins, h, ih]
    split <;> rfl
theorem isort_map {α β : Type} (f : α → β) (lt : α → α → Bool) (lt' : β → β → Bool) (h : ∀ a b, lt' (f a) (f b) = lt a b) (l : List α) : isort lt' (l.map f) = (isort lt l).map f := by
  have H : ∀ (l s : List α), (l.map f).foldl (fun s x => ins lt' x s) (s.map f) = (l.foldl (fun s x => ins lt x s) s).map f := by
    intro l
    induction l with
    | nil => intro s; rfl
    | cons x l ih => intro s; rw [List.map_cons, List.foldl_cons, List.foldl_cons, ins_map f lt lt' h, ih]
  exact H l []
theorem isort_mem {α : Type} (lt : α → α → Bool) (l : List α) (y : α) : y ∈ isort lt l ↔ y ∈ l := by
  have H : ∀ (l s : List α), y ∈ l.foldl (fun s x => ins lt x s) s ↔ y ∈ s ∨ y ∈ l := by
    intro l
    induction l with
    | nil => intro s; simp
    | cons x l ih =>
      intro s
      rw [List.foldl_cons, ih, ins_mem, List.mem_cons]
      constructor
      · rintro ((h | h) | h)
        · exact Or.inr (Or.inl h)
        · exact Or.inl h
        · exact Or.inr (Or.inr h)
      · rintro (h | h | h)
        · exact Or.inl (Or.inr h)
        · exact Or.inl (Or.inl h)
        · exact Or.inr h
  have := H l []
  simpa [isort] using this

/-- Members that are read, each with its cells. -/
theorem pairs_of (Q : S32 → List Value → Prop) (hQ : ∀ x c, Q x c → ∃ p : Pm, p.x = x ∧ p.c.enc = c) : ∀ (xs : List S32) (cs : List (List Value)), cs.length = xs.length → (∀ (j : Nat) (x : S32) (c : List Value), xs[j]? = some x → cs[j]? = some c → Q x c) →
    ∃ Z : List Pm, Z.map (·.x) = xs ∧ Z.map (·.c.enc) = cs ∧ ∀ z ∈ Z, Q z.x z.c.enc
  | [], [], _, _ => ⟨[], rfl, rfl, fun z hz => by simp at hz⟩
  | [], _ :: _, h, _ => by simp at h
  | _ :: _, [], h, _ => by simp at h
  | x :: xs, c :: cs, h, hf => by
    obtain ⟨Z, h1, h2, h3⟩ := pairs_of Q hQ xs cs (by simpa using h) (fun j x c hx hc => hf (j + 1) x c (by simpa using hx) (by simpa using hc))
    have h0 := hf 0 x c rfl rfl
    obtain ⟨p, hp1, hp2⟩ := hQ x c h0
    refine ⟨p :: Z, by rw [List.map_cons, h1, hp1], by rw [List.map_cons, h2, hp2], fun z hz => ?_⟩
    rcases List.mem_cons.1 hz with rfl | hz
    · rw [hp1, hp2]; exact h0
    · exact h3 z hz
theorem pm_of {w : World} {ok : Nat → Prop} (x : S32) (c : List Value) (h : Kd.FK k32 w ok x c) : ∃ p : Pm, p.x = x ∧ p.c.enc = c := by
  have h1 := k32.K_one (Kd.FK_now h)
  obtain ⟨A6, c6, A7, c7, rfl, _⟩ := k32_open (Kd.FK_now h)
  exact ⟨⟨x, ⟨x.f0, x.f1, .string x.f2, .int .i64 x.f3.f0, .string x.f3.f1, .string x.f3.f2, .slice A6 x.f3.f3.length c6, .slice A7 x.f3.f4.length c7, .string x.f3.f5, fun v hv => h1 v (by simp at hv ⊢; exact Or.inr (Or.inr hv))⟩, rfl, rfl⟩, rfl, rfl⟩

/-- Cells that are read as members' cells. -/
theorem cels_read {w : World} {A : Option Addr} {n : Nat} {Z : List Pm} (h : ReadsRow (fun x cs => cs = x ∧ cs.length = k32.sz ∧ ∀ u ∈ cs, u.oneCell' = true) k32.sz w A n (Z.map (·.c.enc))) : Kd.C kCel w A n (Z.map (·.c)) := by
  obtain ⟨h1, h2, h3⟩ := h
  refine ⟨by simpa using h1, h2, fun hn => ?_⟩
  obtain ⟨ad, rfl, hc⟩ := h3 hn
  refine ⟨ad, rfl, fun j p hj => ?_⟩
  have hj' : (Z.map (·.c.enc))[j]? = some p.enc := by
    rw [List.getElem?_map] at hj ⊢
    obtain ⟨z, hz, rfl⟩ := Option.map_eq_some_iff.1 hj
    rw [hz]; rfl
  obtain ⟨c, hc1, hc2, hc3⟩ := hc j _ hj'
  exact ⟨c, hc1, hc2.1, hc3⟩

end Go.Proofs.Ytjbfjgaghjggpaa.Srt
namespace Go.Proofs.Ytjbfjgaghjggpaa.Gv
open Go.RowKit Go.Sort Go.Proofs.Ytjbfjgaghjggpaa.Mrg Go.Proofs.Ytjbfjgaghjggpaa.Srt Go.Proofs.Ytjbfjgaghjggpaa.Pr Go.Proofs.YtjbfjgaghjggpaaW.PrintWords Go.Proofs.YtjbfjgaghjggpaaW.PrintMore
/-- A row of members' cells of the call's own, as members. -/
theorem sorted_V {w w1 : World} {P0_ : Nat → Prop} {v' : Value} {Z : List Pm} (h3 : ∀ z ∈ Z, Kd.FK k32 w P0_ z.x z.c.enc) (hR : Kd.R kCel 32 w1 w.heap.size (fun _ => True) v' (isort (ltOf cmpCel) (Z.map (·.c)))) (hb : Below w.heap.size w w1) :
    Kd.V k32 32 w1 w.heap.size (fun k_ => (P0_ k_ ∨ w.heap.size ≤ k_)) v' (isort ltM (Z.map (·.x))) := by
  have e1 : isort (ltOf cmpCel) (Z.map (·.c)) = (isort ltP Z).map (·.c) := isort_map (·.c) ltP (ltOf cmpCel) ltP_cel Z
  have e2 : isort ltM (Z.map (·.x)) = (isort ltP Z).map (·.x) := isort_map (·.x) ltP ltM (fun _ _ => rfl) Z
  rw [e1] at hR
  rw [e2]
  obtain ⟨_, inner, hown, hrep⟩ := hR
  have hbase : ∀ k, v'.ownBlock = some k → w.heap.size ≤ k := own_base hown
  refine Kd.N_V (base := w.heap.size) ⟨fun k hk => Or.inr (hbase k hk), (isort ltP Z).map (·.c.enc), by simp, ⟨fun k hk => hk.symm, inner, ?_, ?_⟩, ?_⟩
  · have h := hown
    rw [List.length_map] at h ⊢
    exact h
  · refine ⟨?_, fun j p hj => ?_⟩
    · have h := hrep.1
      rw [List.length_map] at h ⊢
      exact h
    rw [List.getElem?_map] at hj
    obtain ⟨z, hz, rfl⟩ := Option.map_eq_some_iff.1 hj
    have t : (List.take 9 (List.drop (j * 9) inner)) = z.c.enc := hrep.2 j z.c (by rw [List.getElem?_map, hz]; rfl)
    show (List.take 9 (List.drop (j * 9) inner)) = z.c.enc ∧ (List.take 9 (List.drop (j * 9) inner)).length = 9 ∧ ∀ u ∈ List.take 9 (List.drop (j * 9) inner), u.oneCell' = true
    rw [t]
    exact ⟨rfl, Cel.len _, Cel.h1 _⟩
  · intro j x c hx hc
    rw [List.getElem?_map] at hx hc
    obtain ⟨z, hz, rfl⟩ := Option.map_eq_some_iff.1 hx
    rw [hz] at hc
    obtain rfl := (Option.some.inj hc)
    have hm : z ∈ Z := (isort_mem ltP Z z).1 (List.mem_of_getElem? hz)
    refine Kd.FK_mono (Kd.FK_below (Kd.FK_bound (h3 z hm)) hb) (fun k hk => ⟨Or.inl hk.1, fun e => ?_⟩)
    have := hbase k e.symm
    omega

def paging_Order.f (l : List S32) : Option (List S32) := if l.length ≤ 1034834473200 then some (isort ltM l) else none
theorem paging_Order.calls (P0_ : Nat → Prop) (A0 : Option Addr) (c0 : Nat) (l0 : List (S32)) (r : List (S32)) (w : World) (hs0 : Kd.V k32 32 w w.heap.size (fun k_ => P0_ k_) (.slice A0 l0.length c0) l0) (h : paging_Order.f l0 = some r) :
    Calls Try.prog 9 #[.slice A0 l0.length c0] w fun e w' => ∃ v0_ : Value, e = .returned (v0_) ∧ Kd.V k32 32 w' w.heap.size (fun k_ => (P0_ k_ ∨ w.heap.size ≤ k_)) v0_ r ∧ Below w.heap.size w w' := by
  unfold paging_Order.f at h
  split at h
  case isFalse => cases h
  case isTrue hl =>
    obtain rfl := Option.some.inj h
    have hF := Kd.V_F hs0
    obtain ⟨news, hnl, hnr, hnf⟩ := Kd.reads_raw (Kd.F_rows hF) (fun y c hk => ⟨k32.K_len (Kd.FK_now hk), k32.K_one (Kd.FK_now hk)⟩)
    obtain ⟨Z, h1, h2, h3⟩ := pairs_of (fun x c => Kd.FK k32 w P0_ x c) (fun x c h => pm_of x c h) l0 news hnl hnf
    subst h1 h2
    have hC := cels_read hnr
    have hlen : (Z.map (·.c)).length = (Z.map (·.x)).length := by simp
    rw [← hlen] at hC hl
    have := order A0 c0 (Z.map (·.c)) w hC hl
    rw [hlen] at this
    refine this.mono ?_
    rintro e w1 ⟨v', rfl, hR, hb⟩
    exact ⟨v', rfl, sorted_V h3 hR hb, hb⟩
end Go.Proofs.Ytjbfjgaghjggpaa.Gv
