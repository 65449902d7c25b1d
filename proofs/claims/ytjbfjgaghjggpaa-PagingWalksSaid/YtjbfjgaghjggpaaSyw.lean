/- The library's merging in place of two sorted neighbours, at members. -/
import Derived.Test.YtjbfjgaghjggpaaSyl
set_option linter.unusedVariables false
set_option linter.unusedSectionVars false
namespace Go.Proofs.Ytjbfjgaghjggpaa.Srt
open Go.Shelf Go.RowKit Go.Lib Go.Sort Go.Proofs.Ytjbfjgaghjggpaa.Mrg
variable {α : Type} [Inhabited α]

/-- What merging in place comes to, from a to b. -/
def SymSays (P : Program) (enc : α → List Value) (k : Nat) (cf : α → α → Int) (g : Nat) (cb : Array Value) (blk off cap : Nat) (w0 : World) (a m b : Nat) (d : Array α) (w : World) : Prop :=
  ∀ (A L R C : List α), d.toList = A ++ L ++ R ++ C → A.length = a → m = a + L.length → b = m + R.length → L ≠ [] → R ≠ [] → Srt (ltOf cf) L → Srt (ltOf cf) R →
    Calls P 30 #[.slice (some ⟨blk, off, none⟩) d.size cap, .int .i64 a, .int .i64 m, .int .i64 b, .func (.func g) #[] cb] w fun e w' => e = .returned (.tuple #[]) ∧ ∃ d' : Array α, d'.toList = A ++ mrg (ltOf cf) L R ++ C ∧ d'.size = d.size ∧ SWK enc k w0 blk off d' w'

theorem size_of {d d' : Array α} {A L A' L' : List α} (h : d.toList = A) (h' : d'.toList = A') (e : A.length = A'.length) : d'.size = d.size := by
  rw [← Array.length_toList, ← Array.length_toList, h, h', e]
/-- The turning, as lists, or nothing to turn. -/
theorem rotate_list {P : Program} {k : Nat} (B : Bas P k) (F32 : P.funcs[32]? = some Try.f32) (F33 : P.funcs[33]? = some Try.f33) (enc : α → List Value) (g : Nat) (cb : Array Value) (blk off cap a m b : Nat) (d0 d : Array α) (w0 w : World)
    (R : RowK enc k w0 blk off d0) (hs : d0.size = d.size) (S : SWK enc k w0 blk off d w) (A X Y C : List α) (hd : d.toList = A ++ X ++ Y ++ C) (hA : A.length = a) (hm : m = a + X.length) (hb : b = m + Y.length) (hX : 0 < X.length) (hY : 0 < Y.length) (hsz : d.size < 4611686018427387904) :
    Calls P 32 #[.slice (some ⟨blk, off, none⟩) d.size cap, .int .i64 a, .int .i64 m, .int .i64 b, .func (.func g) #[] cb] w fun e w' => e = .returned (.tuple #[]) ∧ ∃ d' : Array α, d'.toList = A ++ Y ++ X ++ C ∧ d'.size = d.size ∧ SWK enc k w0 blk off d' w' := by
  have hlen : d.size = A.length + X.length + Y.length + C.length := by rw [← Array.length_toList, hd]; simp; omega
  refine (rotate B F32 F33 enc g cb blk off cap a m b d0 d w0 w R hs S (by omega) (by omega) (by omega) hsz).mono ?_
  rintro e w' ⟨he, S'⟩
  refine ⟨he, _, ?_, rotLoop_size _ _ _ _ _, S'⟩
  exact rot_list (b - a) (m - a) (b - m) m d A X Y C (by omega) (by omega) (by omega) hd (by omega) (by omega) (by omega)

set_option maxHeartbeats 8000000 in
set_option maxRecDepth 1000000 in
theorem sym_step {P : Program} {k : Nat} (B : Bas P k) (F30 : P.funcs[30]? = some Try.f30) (F32 : P.funcs[32]? = some Try.f32) (F33 : P.funcs[33]? = some Try.f33) (enc : α → List Value) (cf : α → α → Int) (g : Nat) (cb : Array Value) (blk off cap a m b : Nat) (d0 d : Array α) (w0 w : World)
    (eg : ∀ args w, (callFunc g args).run P w = .ok (.enter g args) w) (hcmp : CmpLays P g cb enc k cf blk off d0.size w0) (SO : SWO (ltOf cf))
    (R : RowK enc k w0 blk off d0) (hs : d0.size = d.size) (S : SWK enc k w0 blk off d w) (hsz : d.size < 4611686018427387904)
    (ih : ∀ (a' m' b' : Nat) (d' : Array α) (w' : World), b' - a' < b - a → d0.size = d'.size → SWK enc k w0 blk off d' w' → SymSays P enc k cf g cb blk off cap w0 a' m' b' d' w')
    (A X Y C : List α) (hd : d.toList = A ++ X ++ Y ++ C) (hA : A.length = a) (hm : m = a + X.length) (hb : b = m + Y.length) (hX : 1 < X.length) (hY : 1 < Y.length) (sX : Srt (ltOf cf) X) (sY : Srt (ltOf cf) Y) :
    Calls P 30 #[.slice (some ⟨blk, off, none⟩) d.size cap, .int .i64 a, .int .i64 m, .int .i64 b, .func (.func g) #[] cb] w fun e w' => e = .returned (.tuple #[]) ∧ ∃ d' : Array α, d'.toList = A ++ mrg (ltOf cf) X Y ++ C ∧ d'.size = d.size ∧ SWK enc k w0 blk off d' w' := by
  have mixed := B.mixed; have t0 := B.t0; have a0 := B.a0; have z0 := B.z0; have v0 := B.v0; have t3 := B.t3; have a3 := B.a3; have z3 := B.z3; have v3 := B.v3; have t4 := B.t4; have a4 := B.a4; have z4 := B.z4; have v4 := B.v4; have t24 := B.t24; have a24 := B.a24; have z24 := B.z24; have v24 := B.v24; have t63 := B.t63; have a63 := B.a63; have z63 := B.z63; have v63 := B.v63; have aE := B.aE; have zE := B.zE
  have S0 : Aside (SWK enc k w0 blk off d w) := S
  clear S
  have HC : Aside _ := hcmp
  clear hcmp
  have IH : Aside _ := ih
  clear ih
  have hlen : d.size = a + X.length + Y.length + C.length := by rw [← Array.length_toList, hd]; simp; omega
  have dx : ∀ t, t < X.length → d[a + t]! = X[t]! := fun t ht => by
    have := at_list d A X (Y ++ C) (by rw [hd]; simp) t ht
    rw [hA] at this; exact this
  have dy : ∀ t, t < Y.length → d[m + t]! = Y[t]! := fun t ht => by
    have := at_list d (A ++ X) Y C (by rw [hd]) t ht
    rw [List.length_append, hA, ← hm] at this; exact this
  have HD : Hid (d.toList = A ++ X ++ Y ++ C ∧ A.length = a ∧ Srt (ltOf cf) X ∧ Srt (ltOf cf) Y ∧ (∀ t, t < X.length → d[a + t]! = X[t]!) ∧ ∀ t, t < Y.length → d[m + t]! = Y[t]!) := ⟨hd, hA, sX, sY, dx, dy⟩
  clear hd hA sX sY dx dy
  have HS : Hid (d0.size = d.size ∧ d.size = a + X.length + Y.length + C.length) := ⟨hs, hlen⟩
  have bs : b ≤ d.size := by omega
  clear hs hlen
  have q1 : ((m : Int) - (a : Int) == 1) = false := by simp; omega
  have q3 : ((b : Int) - (m : Int) == 1) = false := by simp; omega
  have b1 : b ≤ m + Y.length := by omega
  have b2 : m + Y.length ≤ b := by omega
  have m1 : m ≤ a + X.length := by omega
  have m2 : a + X.length ≤ m := by omega
  clear hb hm
  have E32 : ∀ args w, (callFunc 32 args).run P w = .ok (.enter 32 args) w := enters_of F32 (by kernel_rfl) rfl
  have E30 : ∀ args w, (callFunc 30 args).run P w = .ok (.enter 30 args) w := enters_of F30 (by kernel_rfl) rfl
  obtain ⟨mid, hmid⟩ : ∃ z, z = (a + b) / 2 := ⟨_, rfl⟩
  have emid : ((a : Int) + (b : Int)) / 2 = (mid : Int) := by omega
  have k1 : 2 * mid ≤ a + b := by omega
  have k2 : a + b ≤ 2 * mid + 1 := by omega
  clear hmid
  obtain ⟨n, hn⟩ : ∃ z, z = mid + m := ⟨_, rfl⟩
  have en : (mid : Int) + (m : Int) = (n : Int) := by omega
  obtain ⟨s0, r0, hsr⟩ : ∃ s r : Nat, (mid < m ∧ s + b = n ∧ r = mid) ∨ (m ≤ mid ∧ s = a ∧ r = m) := by
    by_cases h : mid < m
    · exact ⟨n - b, mid, Or.inl ⟨h, by omega, rfl⟩⟩
    · exact ⟨a, m, Or.inr ⟨by omega, rfl, rfl⟩⟩
  have k3 : a ≤ s0 := by omega
  have k4 : s0 ≤ r0 := by omega
  have k5 : r0 ≤ m := by omega
  have k6 : n ≤ s0 + b := by omega
  have k7 : m + r0 ≤ n := by omega
  have k8 : n ≤ m + mid := by omega
  have k9 : m + mid ≤ n := by omega
  obtain ⟨p, hp⟩ : ∃ p, n = p + 1 := ⟨n - 1, by omega⟩
  have ep : (n : Int) - 1 = (p : Int) := by omega
  have p1 : n ≤ p + 1 := by omega
  have p2 : p + 1 ≤ n := by omega
  clear hn hp
  rcases hsr with ⟨c1, c2, c3⟩ | ⟨c1, c2, c3⟩
  case' inl =>
    have T0 : (mid : Int) < (m : Int) := by omega
    have es : (n : Int) - (b : Int) = (s0 : Int) := by omega
    have es2 : Hid ((s0 = a ∨ s0 + b ≤ n) ∧ (r0 = m ∨ n = m + r0)) := ⟨Or.inr (by omega), Or.inr (by omega)⟩
    have HR : Hid (r0 = mid) := c3
    clear c1 c2 c3
  case' inr =>
    have T0 : ¬ (mid : Int) < (m : Int) := by omega
    have es2 : Hid ((s0 = a ∨ s0 + b ≤ n) ∧ (r0 = m ∨ n = m + r0)) := ⟨Or.inl c2, Or.inl c3⟩
    have HR : Hid (s0 = a ∧ r0 = m) := ⟨c2, c3⟩
    clear c1 c2 c3
  all_goals
    go_enter F30, Try.ntmps30
    go_wp2_with fail
    go_loopg [20, 21, 23] (r0 - s0) (fun kx s20 s21 s23 wr => ∃ s r : Nat, s20 = .int .i64 s ∧ s21 = .int .i64 r ∧ s0 ≤ s ∧ s ≤ r ∧ r ≤ r0 ∧ r - s ≤ kx ∧ Aside (SWK enc k w0 blk off d wr) ∧ Hid ((s0 < s → ltOf cf d[p - (s - 1)]! d[s - 1]! = false) ∧ (r < r0 → ltOf cf d[p - r]! d[r]! = true)))
    case atStart =>
      first
        | exact ⟨s0, r0, rfl, by rw [HR.out], Nat.le_refl _, k4, Nat.le_refl _, Nat.le_refl _, S0, ⟨fun h => by omega, fun h => by omega⟩⟩
        | exact ⟨s0, r0, by rw [HR.out.1], by rw [HR.out.2], Nat.le_refl _, k4, Nat.le_refl _, Nat.le_refl _, S0, ⟨fun h => by omega, fun h => by omega⟩⟩
    case round =>
      clear S0
      obtain ⟨s, r, rfl, rfl, hs0, hsr, hr0, hkx, S1, I⟩ := hrel
      by_cases hlt : (s : Int) < (r : Int)
      · obtain ⟨c, hh⟩ : ∃ c : Nat, c = (s + r) / 2 := ⟨_, rfl⟩
        have eh : ((s : Int) + (r : Int)) / 2 = (c : Int) := by omega
        have h1 : s ≤ c := by omega
        have h2 : c < r := by omega
        clear hh
        obtain ⟨q, hq⟩ : ∃ q, q = p - c := ⟨_, rfl⟩
        have eq1 : (p : Int) - (c : Int) = (q : Int) := by omega
        have hqb : q < d.size := by omega
        have HQ : Hid (q = p - c) := hq
        clear hq
        have ea : ((q : Int)).toNat = q := by omega
        have pa : (0 : Int) ≤ (q : Int) := by omega
        have ba : (q : Int) < (d.size : Int) := by omega
        have ra : IntKind.i64.wrap ((p : Int) - (c : Int)) = (q : Int) := by rw [IntKind.wrap_i64]; omega
        have ra2 : IntKind.i64.wrap ((q : Int)) = (q : Int) := by rw [IntKind.wrap_i64]; omega
        have ec : ((c : Int)).toNat = c := by omega
        have pc : (0 : Int) ≤ (c : Int) := by omega
        have bc : (c : Int) < (d.size : Int) := by omega
        have rc : IntKind.i64.wrap ((c : Int)) = (c : Int) := by rw [IntKind.wrap_i64]; omega
        have hs := HS.out.1
        obtain ⟨xq, hxq⟩ : ∃ x, x = d[q]! := ⟨_, rfl⟩
        obtain ⟨xc, hxc⟩ : ∃ x, x = d[c]! := ⟨_, rfl⟩
        have la := S1.out.ld R (by omega) P q (by omega)
        have lb := S1.out.ld R (by omega) P c (by omega)
        rw [← hxq] at la
        rw [← hxc] at lb
        have hc := S1.out.cmp HC.out (by omega) xq xc
        clear hs
        cases hv : ltOf cf xq xc
        case' true =>
          have hv2 : cf xq xc < 0 := of_decide_eq_true hv
          have hd2 : decide (cf xq xc < 0) = true := decide_eq_true hv2
        case' false =>
          have hv2 : ¬ cf xq xc < 0 := of_decide_eq_false hv
          have hd2 : decide (cf xq xc < 0) = false := decide_eq_false hv2
        all_goals
          rw [hxq, hxc, HQ.out] at hv
          have HV := Lib.hid hv
          clear hv hxq hxc
          go_wp2_with fail
          go_quiet_grown (first | (go_at_fn g; refine Calls.grown_of (hc _ _)))
          have S2 : Aside (SWK enc k w0 blk off d (grow (wr.drewN nq) osq)) := S1.out.grown nq osq
          clear la lb hc S1
          generalize grow (wr.drewN nq) osq = wu2 at S2 ⊢
          clear nq osq
          go_wp2_with fail
        · go_roundg (r - (c + 1))
          case measure => omega
          case rel => exact ⟨c + 1, r, by go_num, rfl, by omega, by omega, hr0, Nat.le_refl _, S2, ⟨fun _ => HV.out, I.out.2⟩⟩
        · go_roundg (c - s)
          case measure => omega
          case rel => exact ⟨s, c, rfl, rfl, hs0, h1, by omega, Nat.le_refl _, S2, ⟨I.out.1, fun _ => HV.out⟩⟩
      · obtain rfl : s = r := by omega
        clear hlt hsr
        obtain ⟨i, hi⟩ : ∃ i, s = a + i := ⟨s - a, by omega⟩
        obtain ⟨E, hE⟩ : ∃ E, n = s + E := ⟨n - s, by omega⟩
        have eE : (n : Int) - (s : Int) = (E : Int) := by omega
        obtain ⟨j, hj⟩ : ∃ j, E = m + j := ⟨E - m, by omega⟩
        have jl : j ≤ Y.length := by omega
        have il : i ≤ X.length := by omega
        have mj : mid = a + i + j := by omega
        obtain ⟨X1, X2, Y1, Y2, hxy⟩ : ∃ X1 X2 Y1 Y2 : List α, X = X1 ++ X2 ∧ Y = Y1 ++ Y2 ∧ X1.length = i ∧ Y1.length = j ∧ (∀ r ∈ Y1, ∀ l ∈ X2, ltOf cf r l = true) ∧ (∀ l ∈ X1, ∀ r ∈ Y2, ltOf cf r l = false) := by
          obtain ⟨hd, hA, sX, sY, dx, dy⟩ := HD.out
          refine ⟨X.take i, X.drop i, Y.take j, Y.drop j, (List.take_append_drop ..).symm, (List.take_append_drop ..).symm, by rw [List.length_take]; omega, by rw [List.length_take]; omega, cut SO X Y sX sY i j (fun u1 u2 => ⟨?_, jl⟩) (fun u1 u2 => ⟨?_, il⟩)⟩
          · have h0 := I.out.2 (by rcases es2.out.2 with h | h <;> omega)
            rw [show p - s = m + (j - 1) by omega, hi, dx i u1, dy (j - 1) (by omega)] at h0
            exact h0
          · have h0 := I.out.1 (by rcases es2.out.1 with h | h <;> omega)
            rw [show p - (s - 1) = m + j by omega, show s - 1 = a + (i - 1) by omega, dx (i - 1) (by omega), dy j u2] at h0
            exact h0
        have x1 : X1.length + X2.length = X.length := by rw [hxy.1, List.length_append]
        have y1 : Y1.length + Y2.length = Y.length := by rw [hxy.2.1, List.length_append]
        have HXY := Lib.hid hxy
        have x2 : X1.length = i := hxy.2.2.1
        have y2 : Y1.length = j := hxy.2.2.2.1
        have AL : A.length = a := HD.out.2.1
        have SX : Hid (Srt (ltOf cf) X1 ∧ Srt (ltOf cf) X2 ∧ Srt (ltOf cf) Y1 ∧ Srt (ltOf cf) Y2) := by
          obtain ⟨hd, hA, sX, sY, dx, dy⟩ := HD.out
          rw [hxy.1] at sX
          rw [hxy.2.1] at sY
          exact ⟨(List.pairwise_append.1 sX).1, (List.pairwise_append.1 sX).2.1, (List.pairwise_append.1 sY).1, (List.pairwise_append.1 sY).2.1⟩
        have HL0 : Hid (d.toList = A ++ X1 ++ X2 ++ Y1 ++ (Y2 ++ C)) := by
          show _ = _
          rw [HD.out.1, hxy.1, hxy.2.1]; simp
        have HF : Hid (∀ d' : Array α, d'.toList = A ++ mrg (ltOf cf) X1 Y1 ++ mrg (ltOf cf) X2 Y2 ++ C → d'.toList = A ++ mrg (ltOf cf) X Y ++ C) := by
          intro d' h
          rw [h, hxy.1, hxy.2.1, mrg_split X1 Y1 X2 Y2 hxy.2.2.2.2.1 hxy.2.2.2.2.2]; simp
        have HJ : Hid (s = a + i ∧ n = s + E ∧ E = m + j ∧ mid = a + i + j ∧ X1.length + X2.length = X.length ∧ Y1.length + Y2.length = Y.length ∧ X1.length = i ∧ Y1.length = j ∧ A.length = a) := ⟨hi, hE, hj, mj, x1, y1, x2, y2, AL⟩
        clear hxy
        rcases (show i = 0 ∨ i = X.length ∨ (0 < i ∧ i < X.length) by omega) with ci | ci | ci <;> rcases (show j = 0 ∨ j = Y.length ∨ (0 < j ∧ j < Y.length) by omega) with cj | cj | cj
        · have g1 : ¬ (a : Int) < (s : Int) := by omega
          have g2 : ¬ (s : Int) < (mid : Int) := by omega
          have g3 : (mid : Int) < (E : Int) := by omega
          have g4 : (E : Int) < (b : Int) := by omega
          have g5 : (s : Int) < (m : Int) := by omega
          have g6 : ¬ (m : Int) < (E : Int) := by omega
          clear hi hE hj mj x1 y1 x2 y2 AL
          have NX1 : Hid (X1 = []) := by obtain ⟨hi, hE, hj, mj, x1, y1, x2, y2, AL⟩ := HJ.out; exact List.length_eq_zero_iff.1 (by omega)
          have NY1 : Hid (Y1 = []) := by obtain ⟨hi, hE, hj, mj, x1, y1, x2, y2, AL⟩ := HJ.out; exact List.length_eq_zero_iff.1 (by omega)
          clear ci cj
          obtain ⟨d1, hd1⟩ : ∃ x, x = d := ⟨_, rfl⟩
          have HL1 : Hid (d1.toList = A ++ X1 ++ Y1 ++ (X2 ++ Y2 ++ C)) := by show _ = _; rw [hd1, HL0.out, NY1.out]; simp
          have HZ1 : Hid (d1.size = d.size) := by show _ = _; rw [hd1]
          have S2 : Aside (SWK enc k w0 blk off d1 wr) := by rw [hd1]; exact S1
          clear hd1
          clear S1
          obtain ⟨d2, hd2⟩ : ∃ x, x = d1 := ⟨_, rfl⟩
          have HL2 : Hid (d2.toList = A ++ mrg (ltOf cf) X1 Y1 ++ X2 ++ Y2 ++ C) := by show _ = _; rw [hd2, HL1.out, NX1.out, mrg_nil_left]; simp
          have HZ2 : Hid (d2.size = d.size) := by show _ = _; rw [hd2]; exact HZ1.out
          have S3 : Aside (SWK enc k w0 blk off d2 wr) := by rw [hd2]; exact S2
          clear hd2
          clear S2
          have C3 := IH.out mid E b d2 _ (by omega) (by rw [HZ2.out]; exact HS.out.1) S3.out (A ++ mrg (ltOf cf) X1 Y1) X2 Y2 C HL2.out (by obtain ⟨hi, hE, hj, mj, x1, y1, x2, y2, AL⟩ := HJ.out; rw [List.length_append]; unfold mrg; rw [List.length_merge]; omega) (by obtain ⟨hi, hE, hj, mj, x1, y1, x2, y2, AL⟩ := HJ.out; omega) (by obtain ⟨hi, hE, hj, mj, x1, y1, x2, y2, AL⟩ := HJ.out; omega) (by rintro rfl; obtain ⟨hi, hE, hj, mj, x1, y1, x2, y2, AL⟩ := HJ.out; simp at x1; omega) (by rintro rfl; obtain ⟨hi, hE, hj, mj, x1, y1, x2, y2, AL⟩ := HJ.out; simp at y1; omega) SX.out.2.1 SX.out.2.2.2
          rw [HZ2.out] at C3
          go_wp2_with fail
          all_goals
            refine C3.mono ?_
            clear C3
            rintro e w3 ⟨rfl, d3, hl3, hz3, S4⟩
            have HL3 : Hid (d3.toList = A ++ mrg (ltOf cf) X1 Y1 ++ mrg (ltOf cf) X2 Y2 ++ C) := by show _ = _; rw [hl3]
            have HZ3 : Hid (d3.size = d.size) := hz3
            clear hl3 hz3
            have S4 : Aside (SWK enc k w0 blk off d3 w3) := S4
            clear S3
            go_wp2_with fail
            all_goals
              go_end0
              exact ⟨rfl, d3, (by have h := HF.out d3 HL3.out; first | exact h | (rw [h]; simp)), HZ3.out, S4.out⟩
        · have g1 : ¬ (a : Int) < (s : Int) := by omega
          have g2 : (s : Int) < (mid : Int) := by omega
          have g3 : (mid : Int) < (E : Int) := by omega
          have g4 : ¬ (E : Int) < (b : Int) := by omega
          have g5 : (s : Int) < (m : Int) := by omega
          have g6 : (m : Int) < (E : Int) := by omega
          clear hi hE hj mj x1 y1 x2 y2 AL
          have NX1 : Hid (X1 = []) := by obtain ⟨hi, hE, hj, mj, x1, y1, x2, y2, AL⟩ := HJ.out; exact List.length_eq_zero_iff.1 (by omega)
          have NY2 : Hid (Y2 = []) := by obtain ⟨hi, hE, hj, mj, x1, y1, x2, y2, AL⟩ := HJ.out; exact List.length_eq_zero_iff.1 (by omega)
          clear ci cj
          have C1 := rotate_list B F32 F33 enc g cb blk off cap s m E d0 d w0 wr R HS.out.1 S1.out (A ++ X1) X2 Y1 (Y2 ++ C) HL0.out (by obtain ⟨hi, hE, hj, mj, x1, y1, x2, y2, AL⟩ := HJ.out; rw [List.length_append]; omega) (by obtain ⟨hi, hE, hj, mj, x1, y1, x2, y2, AL⟩ := HJ.out; omega) (by obtain ⟨hi, hE, hj, mj, x1, y1, x2, y2, AL⟩ := HJ.out; omega) (by obtain ⟨hi, hE, hj, mj, x1, y1, x2, y2, AL⟩ := HJ.out; omega) (by obtain ⟨hi, hE, hj, mj, x1, y1, x2, y2, AL⟩ := HJ.out; omega) (by have := HS.out.2; omega)
          go_wp2_with fail
          all_goals
            refine C1.mono ?_
            clear C1
            rintro e w1 ⟨rfl, d1, hl1, hz1, S2⟩
            have HL1 : Hid (d1.toList = A ++ X1 ++ Y1 ++ (X2 ++ Y2 ++ C)) := by show _ = _; rw [hl1]; simp
            have HZ1 := Lib.hid hz1
            clear hl1 hz1
            have S2 : Aside (SWK enc k w0 blk off d1 w1) := S2
            clear S1
            obtain ⟨d2, hd2⟩ : ∃ x, x = d1 := ⟨_, rfl⟩
            have HL2 : Hid (d2.toList = A ++ mrg (ltOf cf) X1 Y1 ++ X2 ++ Y2 ++ C) := by show _ = _; rw [hd2, HL1.out, NX1.out, mrg_nil_left]; simp
            have HZ2 : Hid (d2.size = d.size) := by show _ = _; rw [hd2]; exact HZ1.out
            have S3 : Aside (SWK enc k w0 blk off d2 w1) := by rw [hd2]; exact S2
            clear hd2
            clear S2
            obtain ⟨d3, hd3⟩ : ∃ x, x = d2 := ⟨_, rfl⟩
            have HL3 : Hid (d3.toList = A ++ mrg (ltOf cf) X1 Y1 ++ mrg (ltOf cf) X2 Y2 ++ C) := by show _ = _; rw [hd3, HL2.out, NY2.out, mrg_nil_right]; simp
            have HZ3 : Hid (d3.size = d.size) := by show _ = _; rw [hd3]; exact HZ2.out
            have S4 : Aside (SWK enc k w0 blk off d3 w1) := by rw [hd3]; exact S3
            clear hd3
            clear S3
            go_wp2_with fail
            all_goals
              go_end0
              exact ⟨rfl, d3, (by have h := HF.out d3 HL3.out; first | exact h | (rw [h]; simp)), HZ3.out, S4.out⟩
        · have g1 : ¬ (a : Int) < (s : Int) := by omega
          have g2 : (s : Int) < (mid : Int) := by omega
          have g3 : (mid : Int) < (E : Int) := by omega
          have g4 : (E : Int) < (b : Int) := by omega
          have g5 : (s : Int) < (m : Int) := by omega
          have g6 : (m : Int) < (E : Int) := by omega
          clear hi hE hj mj x1 y1 x2 y2 AL
          have NX1 : Hid (X1 = []) := by obtain ⟨hi, hE, hj, mj, x1, y1, x2, y2, AL⟩ := HJ.out; exact List.length_eq_zero_iff.1 (by omega)
          clear ci cj
          have C1 := rotate_list B F32 F33 enc g cb blk off cap s m E d0 d w0 wr R HS.out.1 S1.out (A ++ X1) X2 Y1 (Y2 ++ C) HL0.out (by obtain ⟨hi, hE, hj, mj, x1, y1, x2, y2, AL⟩ := HJ.out; rw [List.length_append]; omega) (by obtain ⟨hi, hE, hj, mj, x1, y1, x2, y2, AL⟩ := HJ.out; omega) (by obtain ⟨hi, hE, hj, mj, x1, y1, x2, y2, AL⟩ := HJ.out; omega) (by obtain ⟨hi, hE, hj, mj, x1, y1, x2, y2, AL⟩ := HJ.out; omega) (by obtain ⟨hi, hE, hj, mj, x1, y1, x2, y2, AL⟩ := HJ.out; omega) (by have := HS.out.2; omega)
          go_wp2_with fail
          all_goals
            refine C1.mono ?_
            clear C1
            rintro e w1 ⟨rfl, d1, hl1, hz1, S2⟩
            have HL1 : Hid (d1.toList = A ++ X1 ++ Y1 ++ (X2 ++ Y2 ++ C)) := by show _ = _; rw [hl1]; simp
            have HZ1 := Lib.hid hz1
            clear hl1 hz1
            have S2 : Aside (SWK enc k w0 blk off d1 w1) := S2
            clear S1
            obtain ⟨d2, hd2⟩ : ∃ x, x = d1 := ⟨_, rfl⟩
            have HL2 : Hid (d2.toList = A ++ mrg (ltOf cf) X1 Y1 ++ X2 ++ Y2 ++ C) := by show _ = _; rw [hd2, HL1.out, NX1.out, mrg_nil_left]; simp
            have HZ2 : Hid (d2.size = d.size) := by show _ = _; rw [hd2]; exact HZ1.out
            have S3 : Aside (SWK enc k w0 blk off d2 w1) := by rw [hd2]; exact S2
            clear hd2
            clear S2
            have C3 := IH.out mid E b d2 _ (by omega) (by rw [HZ2.out]; exact HS.out.1) S3.out (A ++ mrg (ltOf cf) X1 Y1) X2 Y2 C HL2.out (by obtain ⟨hi, hE, hj, mj, x1, y1, x2, y2, AL⟩ := HJ.out; rw [List.length_append]; unfold mrg; rw [List.length_merge]; omega) (by obtain ⟨hi, hE, hj, mj, x1, y1, x2, y2, AL⟩ := HJ.out; omega) (by obtain ⟨hi, hE, hj, mj, x1, y1, x2, y2, AL⟩ := HJ.out; omega) (by rintro rfl; obtain ⟨hi, hE, hj, mj, x1, y1, x2, y2, AL⟩ := HJ.out; simp at x1; omega) (by rintro rfl; obtain ⟨hi, hE, hj, mj, x1, y1, x2, y2, AL⟩ := HJ.out; simp at y1; omega) SX.out.2.1 SX.out.2.2.2
            rw [HZ2.out] at C3
            go_wp2_with fail
            all_goals
              refine C3.mono ?_
              clear C3
              rintro e w3 ⟨rfl, d3, hl3, hz3, S4⟩
              have HL3 : Hid (d3.toList = A ++ mrg (ltOf cf) X1 Y1 ++ mrg (ltOf cf) X2 Y2 ++ C) := by show _ = _; rw [hl3]
              have HZ3 : Hid (d3.size = d.size) := hz3
              clear hl3 hz3
              have S4 : Aside (SWK enc k w0 blk off d3 w3) := S4
              clear S3
              go_wp2_with fail
              all_goals
                go_end0
                exact ⟨rfl, d3, (by have h := HF.out d3 HL3.out; first | exact h | (rw [h]; simp)), HZ3.out, S4.out⟩
        · have g1 : (a : Int) < (s : Int) := by omega
          have g2 : ¬ (s : Int) < (mid : Int) := by omega
          have g3 : ¬ (mid : Int) < (E : Int) := by omega
          have g4 : (E : Int) < (b : Int) := by omega
          have g5 : ¬ (s : Int) < (m : Int) := by omega
          have g6 : ¬ (m : Int) < (E : Int) := by omega
          clear hi hE hj mj x1 y1 x2 y2 AL
          have NY1 : Hid (Y1 = []) := by obtain ⟨hi, hE, hj, mj, x1, y1, x2, y2, AL⟩ := HJ.out; exact List.length_eq_zero_iff.1 (by omega)
          have NX2 : Hid (X2 = []) := by obtain ⟨hi, hE, hj, mj, x1, y1, x2, y2, AL⟩ := HJ.out; exact List.length_eq_zero_iff.1 (by omega)
          clear ci cj
          obtain ⟨d1, hd1⟩ : ∃ x, x = d := ⟨_, rfl⟩
          have HL1 : Hid (d1.toList = A ++ X1 ++ Y1 ++ (X2 ++ Y2 ++ C)) := by show _ = _; rw [hd1, HL0.out, NX2.out]; simp
          have HZ1 : Hid (d1.size = d.size) := by show _ = _; rw [hd1]
          have S2 : Aside (SWK enc k w0 blk off d1 wr) := by rw [hd1]; exact S1
          clear hd1
          clear S1
          obtain ⟨d2, hd2⟩ : ∃ x, x = d1 := ⟨_, rfl⟩
          have HL2 : Hid (d2.toList = A ++ mrg (ltOf cf) X1 Y1 ++ X2 ++ Y2 ++ C) := by show _ = _; rw [hd2, HL1.out, NY1.out, mrg_nil_right]; simp
          have HZ2 : Hid (d2.size = d.size) := by show _ = _; rw [hd2]; exact HZ1.out
          have S3 : Aside (SWK enc k w0 blk off d2 wr) := by rw [hd2]; exact S2
          clear hd2
          clear S2
          obtain ⟨d3, hd3⟩ : ∃ x, x = d2 := ⟨_, rfl⟩
          have HL3 : Hid (d3.toList = A ++ mrg (ltOf cf) X1 Y1 ++ mrg (ltOf cf) X2 Y2 ++ C) := by show _ = _; rw [hd3, HL2.out, NX2.out, mrg_nil_left]; simp
          have HZ3 : Hid (d3.size = d.size) := by show _ = _; rw [hd3]; exact HZ2.out
          have S4 : Aside (SWK enc k w0 blk off d3 wr) := by rw [hd3]; exact S3
          clear hd3
          clear S3
          go_wp2_with fail
          all_goals
            go_end0
            exact ⟨rfl, d3, (by have h := HF.out d3 HL3.out; first | exact h | (rw [h]; simp)), HZ3.out, S4.out⟩
        · have g1 : (a : Int) < (s : Int) := by omega
          have g2 : (s : Int) < (mid : Int) := by omega
          have g3 : ¬ (mid : Int) < (E : Int) := by omega
          have g4 : ¬ (E : Int) < (b : Int) := by omega
          have g5 : ¬ (s : Int) < (m : Int) := by omega
          have g6 : (m : Int) < (E : Int) := by omega
          clear hi hE hj mj x1 y1 x2 y2 AL
          have NX2 : Hid (X2 = []) := by obtain ⟨hi, hE, hj, mj, x1, y1, x2, y2, AL⟩ := HJ.out; exact List.length_eq_zero_iff.1 (by omega)
          have NY2 : Hid (Y2 = []) := by obtain ⟨hi, hE, hj, mj, x1, y1, x2, y2, AL⟩ := HJ.out; exact List.length_eq_zero_iff.1 (by omega)
          clear ci cj
          obtain ⟨d1, hd1⟩ : ∃ x, x = d := ⟨_, rfl⟩
          have HL1 : Hid (d1.toList = A ++ X1 ++ Y1 ++ (X2 ++ Y2 ++ C)) := by show _ = _; rw [hd1, HL0.out, NX2.out]; simp
          have HZ1 : Hid (d1.size = d.size) := by show _ = _; rw [hd1]
          have S2 : Aside (SWK enc k w0 blk off d1 wr) := by rw [hd1]; exact S1
          clear hd1
          clear S1
          have C2 := IH.out a s mid d1 _ (by omega) (by rw [HZ1.out]; exact HS.out.1) S2.out A X1 Y1 (X2 ++ Y2 ++ C) HL1.out (by obtain ⟨hi, hE, hj, mj, x1, y1, x2, y2, AL⟩ := HJ.out; omega) (by obtain ⟨hi, hE, hj, mj, x1, y1, x2, y2, AL⟩ := HJ.out; omega) (by obtain ⟨hi, hE, hj, mj, x1, y1, x2, y2, AL⟩ := HJ.out; omega) (by rintro rfl; obtain ⟨hi, hE, hj, mj, x1, y1, x2, y2, AL⟩ := HJ.out; simp at x2; omega) (by rintro rfl; obtain ⟨hi, hE, hj, mj, x1, y1, x2, y2, AL⟩ := HJ.out; simp at y2; omega) SX.out.1 SX.out.2.2.1
          rw [HZ1.out] at C2
          go_wp2_with fail
          all_goals
            refine C2.mono ?_
            clear C2
            rintro e w2 ⟨rfl, d2, hl2, hz2, S3⟩
            have HL2 : Hid (d2.toList = A ++ mrg (ltOf cf) X1 Y1 ++ X2 ++ Y2 ++ C) := by show _ = _; rw [hl2]; simp
            have HZ2 : Hid (d2.size = d.size) := hz2
            clear hl2 hz2
            have S3 : Aside (SWK enc k w0 blk off d2 w2) := S3
            clear S2
            obtain ⟨d3, hd3⟩ : ∃ x, x = d2 := ⟨_, rfl⟩
            have HL3 : Hid (d3.toList = A ++ mrg (ltOf cf) X1 Y1 ++ mrg (ltOf cf) X2 Y2 ++ C) := by show _ = _; rw [hd3, HL2.out, NX2.out, mrg_nil_left]; simp
            have HZ3 : Hid (d3.size = d.size) := by show _ = _; rw [hd3]; exact HZ2.out
            have S4 : Aside (SWK enc k w0 blk off d3 w2) := by rw [hd3]; exact S3
            clear hd3
            clear S3
            go_wp2_with fail
            all_goals
              go_end0
              exact ⟨rfl, d3, (by have h := HF.out d3 HL3.out; first | exact h | (rw [h]; simp)), HZ3.out, S4.out⟩
        · have g1 : (a : Int) < (s : Int) := by omega
          have g2 : (s : Int) < (mid : Int) := by omega
          have g3 : ¬ (mid : Int) < (E : Int) := by omega
          have g4 : (E : Int) < (b : Int) := by omega
          have g5 : ¬ (s : Int) < (m : Int) := by omega
          have g6 : (m : Int) < (E : Int) := by omega
          clear hi hE hj mj x1 y1 x2 y2 AL
          have NX2 : Hid (X2 = []) := by obtain ⟨hi, hE, hj, mj, x1, y1, x2, y2, AL⟩ := HJ.out; exact List.length_eq_zero_iff.1 (by omega)
          clear ci cj
          obtain ⟨d1, hd1⟩ : ∃ x, x = d := ⟨_, rfl⟩
          have HL1 : Hid (d1.toList = A ++ X1 ++ Y1 ++ (X2 ++ Y2 ++ C)) := by show _ = _; rw [hd1, HL0.out, NX2.out]; simp
          have HZ1 : Hid (d1.size = d.size) := by show _ = _; rw [hd1]
          have S2 : Aside (SWK enc k w0 blk off d1 wr) := by rw [hd1]; exact S1
          clear hd1
          clear S1
          have C2 := IH.out a s mid d1 _ (by omega) (by rw [HZ1.out]; exact HS.out.1) S2.out A X1 Y1 (X2 ++ Y2 ++ C) HL1.out (by obtain ⟨hi, hE, hj, mj, x1, y1, x2, y2, AL⟩ := HJ.out; omega) (by obtain ⟨hi, hE, hj, mj, x1, y1, x2, y2, AL⟩ := HJ.out; omega) (by obtain ⟨hi, hE, hj, mj, x1, y1, x2, y2, AL⟩ := HJ.out; omega) (by rintro rfl; obtain ⟨hi, hE, hj, mj, x1, y1, x2, y2, AL⟩ := HJ.out; simp at x2; omega) (by rintro rfl; obtain ⟨hi, hE, hj, mj, x1, y1, x2, y2, AL⟩ := HJ.out; simp at y2; omega) SX.out.1 SX.out.2.2.1
          rw [HZ1.out] at C2
          go_wp2_with fail
          all_goals
            refine C2.mono ?_
            clear C2
            rintro e w2 ⟨rfl, d2, hl2, hz2, S3⟩
            have HL2 : Hid (d2.toList = A ++ mrg (ltOf cf) X1 Y1 ++ X2 ++ Y2 ++ C) := by show _ = _; rw [hl2]; simp
            have HZ2 : Hid (d2.size = d.size) := hz2
            clear hl2 hz2
            have S3 : Aside (SWK enc k w0 blk off d2 w2) := S3
            clear S2
            obtain ⟨d3, hd3⟩ : ∃ x, x = d2 := ⟨_, rfl⟩
            have HL3 : Hid (d3.toList = A ++ mrg (ltOf cf) X1 Y1 ++ mrg (ltOf cf) X2 Y2 ++ C) := by show _ = _; rw [hd3, HL2.out, NX2.out, mrg_nil_left]; simp
            have HZ3 : Hid (d3.size = d.size) := by show _ = _; rw [hd3]; exact HZ2.out
            have S4 : Aside (SWK enc k w0 blk off d3 w2) := by rw [hd3]; exact S3
            clear hd3
            clear S3
            go_wp2_with fail
            all_goals
              go_end0
              exact ⟨rfl, d3, (by have h := HF.out d3 HL3.out; first | exact h | (rw [h]; simp)), HZ3.out, S4.out⟩
        · have g1 : (a : Int) < (s : Int) := by omega
          have g2 : ¬ (s : Int) < (mid : Int) := by omega
          have g3 : (mid : Int) < (E : Int) := by omega
          have g4 : (E : Int) < (b : Int) := by omega
          have g5 : (s : Int) < (m : Int) := by omega
          have g6 : ¬ (m : Int) < (E : Int) := by omega
          clear hi hE hj mj x1 y1 x2 y2 AL
          have NY1 : Hid (Y1 = []) := by obtain ⟨hi, hE, hj, mj, x1, y1, x2, y2, AL⟩ := HJ.out; exact List.length_eq_zero_iff.1 (by omega)
          clear ci cj
          obtain ⟨d1, hd1⟩ : ∃ x, x = d := ⟨_, rfl⟩
          have HL1 : Hid (d1.toList = A ++ X1 ++ Y1 ++ (X2 ++ Y2 ++ C)) := by show _ = _; rw [hd1, HL0.out, NY1.out]; simp
          have HZ1 : Hid (d1.size = d.size) := by show _ = _; rw [hd1]
          have S2 : Aside (SWK enc k w0 blk off d1 wr) := by rw [hd1]; exact S1
          clear hd1
          clear S1
          obtain ⟨d2, hd2⟩ : ∃ x, x = d1 := ⟨_, rfl⟩
          have HL2 : Hid (d2.toList = A ++ mrg (ltOf cf) X1 Y1 ++ X2 ++ Y2 ++ C) := by show _ = _; rw [hd2, HL1.out, NY1.out, mrg_nil_right]; simp
          have HZ2 : Hid (d2.size = d.size) := by show _ = _; rw [hd2]; exact HZ1.out
          have S3 : Aside (SWK enc k w0 blk off d2 wr) := by rw [hd2]; exact S2
          clear hd2
          clear S2
          have C3 := IH.out mid E b d2 _ (by omega) (by rw [HZ2.out]; exact HS.out.1) S3.out (A ++ mrg (ltOf cf) X1 Y1) X2 Y2 C HL2.out (by obtain ⟨hi, hE, hj, mj, x1, y1, x2, y2, AL⟩ := HJ.out; rw [List.length_append]; unfold mrg; rw [List.length_merge]; omega) (by obtain ⟨hi, hE, hj, mj, x1, y1, x2, y2, AL⟩ := HJ.out; omega) (by obtain ⟨hi, hE, hj, mj, x1, y1, x2, y2, AL⟩ := HJ.out; omega) (by rintro rfl; obtain ⟨hi, hE, hj, mj, x1, y1, x2, y2, AL⟩ := HJ.out; simp at x1; omega) (by rintro rfl; obtain ⟨hi, hE, hj, mj, x1, y1, x2, y2, AL⟩ := HJ.out; simp at y1; omega) SX.out.2.1 SX.out.2.2.2
          rw [HZ2.out] at C3
          go_wp2_with fail
          all_goals
            refine C3.mono ?_
            clear C3
            rintro e w3 ⟨rfl, d3, hl3, hz3, S4⟩
            have HL3 : Hid (d3.toList = A ++ mrg (ltOf cf) X1 Y1 ++ mrg (ltOf cf) X2 Y2 ++ C) := by show _ = _; rw [hl3]
            have HZ3 : Hid (d3.size = d.size) := hz3
            clear hl3 hz3
            have S4 : Aside (SWK enc k w0 blk off d3 w3) := S4
            clear S3
            go_wp2_with fail
            all_goals
              go_end0
              exact ⟨rfl, d3, (by have h := HF.out d3 HL3.out; first | exact h | (rw [h]; simp)), HZ3.out, S4.out⟩
        · have g1 : (a : Int) < (s : Int) := by omega
          have g2 : (s : Int) < (mid : Int) := by omega
          have g3 : (mid : Int) < (E : Int) := by omega
          have g4 : ¬ (E : Int) < (b : Int) := by omega
          have g5 : (s : Int) < (m : Int) := by omega
          have g6 : (m : Int) < (E : Int) := by omega
          clear hi hE hj mj x1 y1 x2 y2 AL
          have NY2 : Hid (Y2 = []) := by obtain ⟨hi, hE, hj, mj, x1, y1, x2, y2, AL⟩ := HJ.out; exact List.length_eq_zero_iff.1 (by omega)
          clear ci cj
          have C1 := rotate_list B F32 F33 enc g cb blk off cap s m E d0 d w0 wr R HS.out.1 S1.out (A ++ X1) X2 Y1 (Y2 ++ C) HL0.out (by obtain ⟨hi, hE, hj, mj, x1, y1, x2, y2, AL⟩ := HJ.out; rw [List.length_append]; omega) (by obtain ⟨hi, hE, hj, mj, x1, y1, x2, y2, AL⟩ := HJ.out; omega) (by obtain ⟨hi, hE, hj, mj, x1, y1, x2, y2, AL⟩ := HJ.out; omega) (by obtain ⟨hi, hE, hj, mj, x1, y1, x2, y2, AL⟩ := HJ.out; omega) (by obtain ⟨hi, hE, hj, mj, x1, y1, x2, y2, AL⟩ := HJ.out; omega) (by have := HS.out.2; omega)
          go_wp2_with fail
          all_goals
            refine C1.mono ?_
            clear C1
            rintro e w1 ⟨rfl, d1, hl1, hz1, S2⟩
            have HL1 : Hid (d1.toList = A ++ X1 ++ Y1 ++ (X2 ++ Y2 ++ C)) := by show _ = _; rw [hl1]; simp
            have HZ1 := Lib.hid hz1
            clear hl1 hz1
            have S2 : Aside (SWK enc k w0 blk off d1 w1) := S2
            clear S1
            have C2 := IH.out a s mid d1 _ (by omega) (by rw [HZ1.out]; exact HS.out.1) S2.out A X1 Y1 (X2 ++ Y2 ++ C) HL1.out (by obtain ⟨hi, hE, hj, mj, x1, y1, x2, y2, AL⟩ := HJ.out; omega) (by obtain ⟨hi, hE, hj, mj, x1, y1, x2, y2, AL⟩ := HJ.out; omega) (by obtain ⟨hi, hE, hj, mj, x1, y1, x2, y2, AL⟩ := HJ.out; omega) (by rintro rfl; obtain ⟨hi, hE, hj, mj, x1, y1, x2, y2, AL⟩ := HJ.out; simp at x2; omega) (by rintro rfl; obtain ⟨hi, hE, hj, mj, x1, y1, x2, y2, AL⟩ := HJ.out; simp at y2; omega) SX.out.1 SX.out.2.2.1
            rw [HZ1.out] at C2
            go_wp2_with fail
            all_goals
              refine C2.mono ?_
              clear C2
              rintro e w2 ⟨rfl, d2, hl2, hz2, S3⟩
              have HL2 : Hid (d2.toList = A ++ mrg (ltOf cf) X1 Y1 ++ X2 ++ Y2 ++ C) := by show _ = _; rw [hl2]; simp
              have HZ2 : Hid (d2.size = d.size) := hz2
              clear hl2 hz2
              have S3 : Aside (SWK enc k w0 blk off d2 w2) := S3
              clear S2
              obtain ⟨d3, hd3⟩ : ∃ x, x = d2 := ⟨_, rfl⟩
              have HL3 : Hid (d3.toList = A ++ mrg (ltOf cf) X1 Y1 ++ mrg (ltOf cf) X2 Y2 ++ C) := by show _ = _; rw [hd3, HL2.out, NY2.out, mrg_nil_right]; simp
              have HZ3 : Hid (d3.size = d.size) := by show _ = _; rw [hd3]; exact HZ2.out
              have S4 : Aside (SWK enc k w0 blk off d3 w2) := by rw [hd3]; exact S3
              clear hd3
              clear S3
              go_wp2_with fail
              all_goals
                go_end0
                exact ⟨rfl, d3, (by have h := HF.out d3 HL3.out; first | exact h | (rw [h]; simp)), HZ3.out, S4.out⟩
        · have g1 : (a : Int) < (s : Int) := by omega
          have g2 : (s : Int) < (mid : Int) := by omega
          have g3 : (mid : Int) < (E : Int) := by omega
          have g4 : (E : Int) < (b : Int) := by omega
          have g5 : (s : Int) < (m : Int) := by omega
          have g6 : (m : Int) < (E : Int) := by omega
          clear hi hE hj mj x1 y1 x2 y2 AL
          clear ci cj
          have C1 := rotate_list B F32 F33 enc g cb blk off cap s m E d0 d w0 wr R HS.out.1 S1.out (A ++ X1) X2 Y1 (Y2 ++ C) HL0.out (by obtain ⟨hi, hE, hj, mj, x1, y1, x2, y2, AL⟩ := HJ.out; rw [List.length_append]; omega) (by obtain ⟨hi, hE, hj, mj, x1, y1, x2, y2, AL⟩ := HJ.out; omega) (by obtain ⟨hi, hE, hj, mj, x1, y1, x2, y2, AL⟩ := HJ.out; omega) (by obtain ⟨hi, hE, hj, mj, x1, y1, x2, y2, AL⟩ := HJ.out; omega) (by obtain ⟨hi, hE, hj, mj, x1, y1, x2, y2, AL⟩ := HJ.out; omega) (by have := HS.out.2; omega)
          go_wp2_with fail
          all_goals
            refine C1.mono ?_
            clear C1
            rintro e w1 ⟨rfl, d1, hl1, hz1, S2⟩
            have HL1 : Hid (d1.toList = A ++ X1 ++ Y1 ++ (X2 ++ Y2 ++ C)) := by show _ = _; rw [hl1]; simp
            have HZ1 := Lib.hid hz1
            clear hl1 hz1
            have S2 : Aside (SWK enc k w0 blk off d1 w1) := S2
            clear S1
            have C2 := IH.out a s mid d1 _ (by omega) (by rw [HZ1.out]; exact HS.out.1) S2.out A X1 Y1 (X2 ++ Y2 ++ C) HL1.out (by obtain ⟨hi, hE, hj, mj, x1, y1, x2, y2, AL⟩ := HJ.out; omega) (by obtain ⟨hi, hE, hj, mj, x1, y1, x2, y2, AL⟩ := HJ.out; omega) (by obtain ⟨hi, hE, hj, mj, x1, y1, x2, y2, AL⟩ := HJ.out; omega) (by rintro rfl; obtain ⟨hi, hE, hj, mj, x1, y1, x2, y2, AL⟩ := HJ.out; simp at x2; omega) (by rintro rfl; obtain ⟨hi, hE, hj, mj, x1, y1, x2, y2, AL⟩ := HJ.out; simp at y2; omega) SX.out.1 SX.out.2.2.1
            rw [HZ1.out] at C2
            go_wp2_with fail
            all_goals
              refine C2.mono ?_
              clear C2
              rintro e w2 ⟨rfl, d2, hl2, hz2, S3⟩
              have HL2 : Hid (d2.toList = A ++ mrg (ltOf cf) X1 Y1 ++ X2 ++ Y2 ++ C) := by show _ = _; rw [hl2]; simp
              have HZ2 : Hid (d2.size = d.size) := hz2
              clear hl2 hz2
              have S3 : Aside (SWK enc k w0 blk off d2 w2) := S3
              clear S2
              have C3 := IH.out mid E b d2 _ (by omega) (by rw [HZ2.out]; exact HS.out.1) S3.out (A ++ mrg (ltOf cf) X1 Y1) X2 Y2 C HL2.out (by obtain ⟨hi, hE, hj, mj, x1, y1, x2, y2, AL⟩ := HJ.out; rw [List.length_append]; unfold mrg; rw [List.length_merge]; omega) (by obtain ⟨hi, hE, hj, mj, x1, y1, x2, y2, AL⟩ := HJ.out; omega) (by obtain ⟨hi, hE, hj, mj, x1, y1, x2, y2, AL⟩ := HJ.out; omega) (by rintro rfl; obtain ⟨hi, hE, hj, mj, x1, y1, x2, y2, AL⟩ := HJ.out; simp at x1; omega) (by rintro rfl; obtain ⟨hi, hE, hj, mj, x1, y1, x2, y2, AL⟩ := HJ.out; simp at y1; omega) SX.out.2.1 SX.out.2.2.2
              rw [HZ2.out] at C3
              go_wp2_with fail
              all_goals
                refine C3.mono ?_
                clear C3
                rintro e w3 ⟨rfl, d3, hl3, hz3, S4⟩
                have HL3 : Hid (d3.toList = A ++ mrg (ltOf cf) X1 Y1 ++ mrg (ltOf cf) X2 Y2 ++ C) := by show _ = _; rw [hl3]
                have HZ3 : Hid (d3.size = d.size) := hz3
                clear hl3 hz3
                have S4 : Aside (SWK enc k w0 blk off d3 w3) := S4
                clear S3
                go_wp2_with fail
                all_goals
                  go_end0
                  exact ⟨rfl, d3, (by have h := HF.out d3 HL3.out; first | exact h | (rw [h]; simp)), HZ3.out, S4.out⟩
end Go.Proofs.Ytjbfjgaghjggpaa.Srt
