/- The library's stable sort of a row of members: it holds the same members behind it, each behind all that it is not less than ('isort'). -/
import Derived.Test.YtjbfjgaghjggpaaSyw
import Derived.Test.YtjbfjgaghjggpaaBlk
set_option linter.unusedVariables false
set_option linter.unusedSectionVars false
namespace Go.Proofs.Ytjbfjgaghjggpaa.Srt
open Go.Shelf Go.RowKit Go.Lib Go.Sort Go.Proofs.Ytjbfjgaghjggpaa.Mrg
variable {α : Type} [Inhabited α]

/-- What a program's functions are. -/
structure Bod (P : Program) : Prop where
  f16 : P.funcs[16]? = some Try.f16
  f25 : P.funcs[25]? = some Try.f25
  f30 : P.funcs[30]? = some Try.f30
  f32 : P.funcs[32]? = some Try.f32
  f33 : P.funcs[33]? = some Try.f33

theorem symMerge {P : Program} {k : Nat} (B : Bas P k) (F : Bod P) (enc : α → List Value) (cf : α → α → Int) (g : Nat) (cb : Array Value) (blk off cap : Nat) (d0 : Array α) (w0 : World)
    (eg : ∀ args w, (callFunc g args).run P w = .ok (.enter g args) w) (hcmp : CmpLays P g cb enc k cf blk off d0.size w0) (SO : SWO (ltOf cf)) (R : RowK enc k w0 blk off d0) (hsz : d0.size < 4611686018427387904) (N : Nat) :
    ∀ (a m b : Nat) (d : Array α) (w : World), b - a < N → d0.size = d.size → SWK enc k w0 blk off d w → SymSays P enc k cf g cb blk off cap w0 a m b d w := by
  induction N with
  | zero => intro a m b d w h; omega
  | succ N ih =>
    intro a m b d w hN hs S A X Y C hd hA hm hb nX nY sX sY
    have lX : 0 < X.length := List.length_pos_iff.2 nX
    have lY : 0 < Y.length := List.length_pos_iff.2 nY
    by_cases h1 : X.length = 1
    · obtain ⟨x, rfl⟩ := List.length_eq_one_iff.1 h1
      exact sym_left B F.f30 enc cf g cb blk off cap a m b d0 d w0 w eg hcmp SO R hs S A Y C x hd hA hm hb sY (by omega)
    · by_cases h2 : Y.length = 1
      · obtain ⟨y, rfl⟩ := List.length_eq_one_iff.1 h2
        exact sym_right B F.f30 enc cf g cb blk off cap a m b d0 d w0 w eg hcmp SO R hs S A X C y hd hA hm h1 hb sX (by omega)
      · exact sym_step B F.f30 F.f32 F.f33 enc cf g cb blk off cap a m b d0 d w0 w eg hcmp SO R hs S (by omega) (fun a' m' b' d' w' h3 h4 h5 => ih a' m' b' d' w' (by omega) h4 h5) A X Y C hd hA hm hb (by omega) (by omega) sX sY

/-- What the library's sort by insertion comes to. -/
def InsSays (P : Program) (enc : α → List Value) (k : Nat) (cf : α → α → Int) (g : Nat) (cb : Array Value) (blk off cap : Nat) (w0 : World) (n0 : Nat) : Prop :=
  ∀ (a b : Nat) (d : Array α) (w : World) (A X C : List α), n0 = d.size → SWK enc k w0 blk off d w → d.toList = A ++ X ++ C → A.length = a → b = a + X.length →
    Calls P 29 #[.slice (some ⟨blk, off, none⟩) d.size cap, .int .i64 a, .int .i64 b, .func (.func g) #[] cb] w fun e w' => e = .returned (.tuple #[]) ∧ ∃ d' : Array α, d'.toList = A ++ isort (ltOf cf) X ++ C ∧ d'.size = d.size ∧ SWK enc k w0 blk off d' w'

set_option maxHeartbeats 8000000 in
set_option maxRecDepth 1000000 in
theorem stable {P : Program} {k : Nat} (B : Bas P k) (F : Bod P) (enc : α → List Value) (cf : α → α → Int) (g : Nat) (cb : Array Value) (blk off cap : Nat) (d : Array α) (w : World) (e29 : ∀ args w, (callFunc 29 args).run P w = .ok (.enter 29 args) w)
    (eg : ∀ args w, (callFunc g args).run P w = .ok (.enter g args) w) (hcmp : CmpLays P g cb enc k cf blk off d.size w) (SO : SWO (ltOf cf)) (R : RowK enc k w blk off d) (INS : InsSays P enc k cf g cb blk off cap w d.size) (hsz : d.size < 1000000000000000000) :
    Calls P 25 #[.slice (some ⟨blk, off, none⟩) d.size cap, .int .i64 d.size, .func (.func g) #[] cb] w fun e w' => e = .returned (.tuple #[]) ∧ ∃ d' : Array α, d'.toList = isort (ltOf cf) d.toList ∧ d'.size = d.size ∧ SWK enc k w blk off d' w' := by
  have mixed := B.mixed; have t0 := B.t0; have a0 := B.a0; have z0 := B.z0; have v0 := B.v0; have t3 := B.t3; have a3 := B.a3; have z3 := B.z3; have v3 := B.v3; have t4 := B.t4; have a4 := B.a4; have z4 := B.z4; have v4 := B.v4; have t24 := B.t24; have a24 := B.a24; have z24 := B.z24; have v24 := B.v24; have t63 := B.t63; have a63 := B.a63; have z63 := B.z63; have v63 := B.v63; have aE := B.aE; have zE := B.zE
  have S0 : Aside (SWK enc k w blk off d w) := SWK.start R.hH
  have SYM : Aside _ := symMerge B F enc cf g cb blk off cap d w eg hcmp SO R (by omega) (d.size + 1)
  have IN : Aside _ := INS
  clear INS hcmp
  obtain ⟨l0, hl0⟩ : ∃ l, l = d.toList := ⟨_, rfl⟩
  have hln : l0.length = d.size := by rw [hl0, Array.length_toList]
  obtain ⟨n, hn⟩ : ∃ n, n = d.size := ⟨_, rfl⟩
  rw [← hn] at hsz hln ⊢
  have HN : Hid (n = d.size ∧ l0 = d.toList ∧ l0.length = n) := ⟨hn, hl0, hln⟩
  rw [← hl0]
  clear hn hl0 hln
  go_enter F.f25, Try.ntmps25
  have E30 : ∀ args w, (callFunc 30 args).run P w = .ok (.enter 30 args) w := enters_of F.f30 (by kernel_rfl) rfl
  go_wp2_with fail
  go_loopg [7, 8] n (fun kx s7 s8 wr => ∃ (a b : Nat) (dk : Array α), s7 = .int .i64 a ∧ s8 = .int .i64 b ∧ b ≤ a + 20 ∧ a + 20 ≤ b ∧ a ≤ n ∧ n - a ≤ kx ∧ dk.size = n ∧ Aside (SWK enc k w blk off dk wr) ∧ Hid (∃ Q : List α, Q.length = a ∧ dk.toList = Q ++ l0.drop a ∧ ∀ r, Blk (ltOf cf) 20 (l0.drop a) r → Blk (ltOf cf) 20 l0 (Q ++ r)))
  case atStart => exact ⟨0, 20, d, rfl, rfl, Nat.le_refl _, Nat.le_refl _, Nat.zero_le _, Nat.le_refl _, HN.out.1.symm, S0, ⟨[], rfl, by rw [HN.out.2.1]; rfl, fun r h => h⟩⟩
  case round =>
    clear S0
    obtain ⟨a, b, dk, rfl, rfl, hb1, hb2, han, hkx, hsk, S1, HI⟩ := hrel
    by_cases hlt : (b : Int) ≤ (n : Int)
    · obtain ⟨Q, hQ, hl, hq⟩ := HI.out
      have lx : ((l0.drop a).take 20).length = 20 := by rw [List.length_take, List.length_drop, HN.out.2.2]; omega
      have C1 := IN.out a b dk wr Q ((l0.drop a).take 20) ((l0.drop a).drop 20) (by rw [hsk]; exact HN.out.1.symm) S1.out (by rw [hl, List.append_assoc, List.take_append_drop]) hQ (by omega)
      rw [hsk] at C1
      have HJ : Hid (Q.length = a ∧ ((l0.drop a).take 20).length = 20 ∧ ∀ r, Blk (ltOf cf) 20 (l0.drop (a + 20)) r → Blk (ltOf cf) 20 l0 (Q ++ isort (ltOf cf) ((l0.drop a).take 20) ++ r)) := by
        refine ⟨hQ, lx, fun r h => ?_⟩
        have := Blk.more (lt := ltOf cf) _ _ _ lx h
        rw [← List.drop_drop, List.take_append_drop] at this
        rw [List.append_assoc]; exact hq _ this
      clear hQ hl hq lx HI S1
      go_wp2_with fail
      refine C1.mono ?_
      clear C1
      rintro e w1 ⟨rfl, d1, hl1, hz1, S2⟩
      have HL := Lib.hid hl1
      have HZ : Hid (d1.size = n) := hz1
      have S2 : Aside (SWK enc k w blk off d1 w1) := S2
      clear hl1 hz1
      go_wp2_with fail
      go_roundg (n - b)
      case measure => omega
      case rel => exact ⟨b, b + 20, d1, rfl, by go_num, by omega, by omega, by omega, Nat.le_refl _, HZ.out, S2, ⟨Q ++ isort (ltOf cf) ((l0.drop a).take 20), by rw [List.length_append, isort_len, HJ.out.1, HJ.out.2.1]; omega, by rw [HL.out, List.drop_drop, show a + 20 = b by omega], by have := HJ.out.2.2; rw [show a + 20 = b by omega] at this; exact this⟩⟩
    · obtain ⟨Q, hQ, hl, hq⟩ := HI.out
      have lx : (l0.drop a).length = n - a := by rw [List.length_drop, HN.out.2.2]
      have C1 := IN.out a n dk wr Q (l0.drop a) [] (by rw [hsk]; exact HN.out.1.symm) S1.out (by rw [hl, List.append_nil]) hQ (by omega)
      rw [hsk] at C1
      have HJ : Hid (Blk (ltOf cf) 20 l0 (Q ++ isort (ltOf cf) (l0.drop a))) := hq _ (Blk.last _ (by omega))
      clear hQ hl hq lx HI S1
      go_wp2_with fail
      refine C1.mono ?_
      clear C1
      rintro e w1 ⟨rfl, d1, hl1, hz1, S2⟩
      have HL : Hid (Blk (ltOf cf) 20 l0 d1.toList) := by show Blk _ _ _ _; rw [hl1, List.append_nil]; exact HJ.out
      have HZ : Hid (d1.size = n) := hz1
      have S2 : Aside (SWK enc k w blk off d1 w1) := S2
      clear hl1 hz1 HJ hlt hb1 hb2 hkx hsk han
      go_wp2_with fail
      go_loopg [6, 7, 8, 9] (n + 1) (fun kx s6 s7 s8 s9 w2 => ∃ (s : Nat) (dk : Array α), s6 = .int .i64 s ∧ 0 < s ∧ s ≤ 2 * n + 20 ∧ n + 1 - s ≤ kx ∧ dk.size = n ∧ Aside (SWK enc k w blk off dk w2) ∧ Hid (Blk (ltOf cf) s l0 dk.toList))
      case atStart => exact ⟨20, d1, rfl, by omega, by omega, by omega, HZ.out, S2, HL⟩
      case round =>
        clear S2 HL HZ
        obtain ⟨s, dk, rfl, hs0, hs1, hkx, hsk, S1, HB⟩ := hrel
        by_cases hlt : (s : Int) < (n : Int)
        · go_wp2_with fail
          go_loopg [7, 8] n (fun kx s7 s8 w3 => ∃ (a b : Nat) (dk : Array α), s7 = .int .i64 a ∧ s8 = .int .i64 b ∧ b ≤ a + 2 * s ∧ a + 2 * s ≤ b ∧ a ≤ n ∧ n - a ≤ kx ∧ dk.size = n ∧ Aside (SWK enc k w blk off dk w3) ∧ Hid (∃ Q q : List α, Q.length = a ∧ dk.toList = Q ++ q ∧ Blk (ltOf cf) s (l0.drop a) q ∧ ∀ r, Blk (ltOf cf) (2 * s) (l0.drop a) r → Blk (ltOf cf) (2 * s) l0 (Q ++ r)))
          case atStart => exact ⟨0, 2 * s, dk, rfl, by go_num, by omega, by omega, Nat.zero_le _, Nat.le_refl _, hsk, S1, ⟨[], dk.toList, rfl, rfl, HB.out, fun r h => h⟩⟩
          case round =>
            clear S1 HB
            obtain ⟨a, b, dk, rfl, rfl, hb1, hb2, han, hkx2, hsk, S1, HI⟩ := hrel
            by_cases hle : (b : Int) ≤ (n : Int)
            · obtain ⟨Q, q, hQ, hl, hbq, hq⟩ := HI.out
              obtain ⟨X, Y, Z, q2, e1, e2, e3, e4, e5⟩ := Blk.two hs0 hbq (by rw [List.length_drop, HN.out.2.2]; omega)
              have eZ : l0.drop b = Z := by
                rw [show b = a + 2 * s by omega, ← List.drop_drop, e1, List.drop_left' (by rw [List.length_append]; omega)]
              have nX : isort (ltOf cf) X ≠ [] := by intro h; have := congrArg List.length h; rw [isort_len, e2] at this; simp at this; omega
              have nY : isort (ltOf cf) Y ≠ [] := by intro h; have := congrArg List.length h; rw [isort_len, e3] at this; simp at this; omega
              obtain ⟨z, hz⟩ : ∃ z, z = a + s := ⟨_, rfl⟩
              have C1 := SYM.out a z b dk wr (by have := HN.out.1; omega) (by rw [hsk]; exact HN.out.1.symm) S1.out Q (isort (ltOf cf) X) (isort (ltOf cf) Y) q2 (by rw [hl, e4]; simp) hQ (by rw [isort_len, e2]; exact hz) (by rw [isort_len, e3]; omega) nX nY (isort_srt SO X) (isort_srt SO Y)
              rw [hsk, mrg_isort SO] at C1
              have HJ : Hid (Q.length = a ∧ (X ++ Y).length = 2 * s ∧ Blk (ltOf cf) s (l0.drop b) q2 ∧ ∀ r, Blk (ltOf cf) (2 * s) (l0.drop b) r → Blk (ltOf cf) (2 * s) l0 (Q ++ isort (ltOf cf) (X ++ Y) ++ r)) := by
                have e6 : (X ++ Y).length = 2 * s := by rw [List.length_append]; omega
                refine ⟨hQ, e6, by rw [eZ]; exact e5, fun r h => ?_⟩
                rw [eZ] at h
                rw [List.append_assoc]
                refine hq _ ?_
                rw [e1]
                exact Blk.more _ _ _ e6 h
              have eas : (a : Int) + (s : Int) = (z : Int) := by omega
              clear hQ hl hbq hq e1 e2 e3 e4 e5 eZ nX nY HI S1 hz
              go_wp2_with fail
              refine C1.mono ?_
              clear C1
              rintro e w4 ⟨rfl, d1, hl1, hz1, S2⟩
              have HL := Lib.hid hl1
              have HZ : Hid (d1.size = n) := hz1
              have S2 : Aside (SWK enc k w blk off d1 w4) := S2
              clear hl1 hz1 eas
              go_wp2_with fail
              go_roundg (n - b)
              case measure => omega
              case rel => exact ⟨b, b + 2 * s, d1, rfl, by go_num, by omega, by omega, by omega, Nat.le_refl _, HZ.out, S2, ⟨Q ++ isort (ltOf cf) (X ++ Y), q2, by rw [List.length_append, isort_len, HJ.out.1, HJ.out.2.1]; omega, HL.out, HJ.out.2.2.1, HJ.out.2.2.2⟩⟩
            · by_cases hm : (a : Int) + (s : Int) < (n : Int)
              · obtain ⟨Q, q, hQ, hl, hbq, hq⟩ := HI.out
                have ld : (l0.drop a).length = n - a := by rw [List.length_drop, HN.out.2.2]
                obtain ⟨X, Y, e1, e2, e3⟩ := Blk.rest hs0 hbq (by omega) (by omega)
                have lY : X.length + Y.length = n - a := by rw [← ld, e1, List.length_append]
                have nX : isort (ltOf cf) X ≠ [] := by intro h; have := congrArg List.length h; rw [isort_len, e2] at this; simp at this; omega
                have nY : isort (ltOf cf) Y ≠ [] := by intro h; have := congrArg List.length h; rw [isort_len] at this; simp at this; rw [this] at lY; simp at lY; omega
                obtain ⟨z, hz⟩ : ∃ z, z = a + s := ⟨_, rfl⟩
                have C1 := SYM.out a z n dk wr (by have := HN.out.1; omega) (by rw [hsk]; exact HN.out.1.symm) S1.out Q (isort (ltOf cf) X) (isort (ltOf cf) Y) [] (by rw [hl, e3]; simp) hQ (by rw [isort_len, e2]; exact hz) (by rw [isort_len]; omega) nX nY (isort_srt SO X) (isort_srt SO Y)
                rw [hsk, mrg_isort SO] at C1
                have HJ : Hid (Blk (ltOf cf) (2 * s) l0 (Q ++ isort (ltOf cf) (X ++ Y))) := by
                  refine hq _ ?_
                  rw [e1]
                  exact Blk.last _ (by rw [List.length_append]; omega)
                have eas : (a : Int) + (s : Int) = (z : Int) := by omega
                have hm2 : (z : Int) < (n : Int) := by omega
                clear hQ hl hbq hq e1 e2 e3 lY ld nX nY HI S1 hz
                go_wp2_with fail
                refine C1.mono ?_
                clear C1
                rintro e w4 ⟨rfl, d1, hl1, hz1, S2⟩
                have HL : Hid (Blk (ltOf cf) (2 * s) l0 d1.toList) := by show Blk _ _ _ _; rw [hl1, List.append_nil]; exact HJ.out
                have HZ : Hid (d1.size = n) := hz1
                have S2 : Aside (SWK enc k w blk off d1 w4) := S2
                clear hl1 hz1 eas
                go_wp2_with fail
                go_roundg (n + 1 - 2 * s)
                case measure => omega
                case rel => exact ⟨2 * s, d1, by go_num, by omega, by omega, Nat.le_refl _, HZ.out, S2, HL⟩
              · have HL : Hid (Blk (ltOf cf) (2 * s) l0 dk.toList) := by
                  obtain ⟨Q, q, hQ, hl, hbq, hq⟩ := HI.out
                  have ld : (l0.drop a).length = n - a := by rw [List.length_drop, HN.out.2.2]
                  show Blk _ _ _ _
                  rw [hl, Blk.only hs0 hbq (by omega)]
                  exact hq _ (Blk.last _ (by omega))
                clear HI
                go_wp2_with fail
                go_roundg (n + 1 - 2 * s)
                case measure => omega
                case rel => exact ⟨2 * s, dk, by go_num, by omega, by omega, Nat.le_refl _, hsk, S1, HL⟩
        · have HL : Hid (dk.toList = isort (ltOf cf) l0) := Blk.only hs0 HB.out (by rw [HN.out.2.2]; omega)
          clear HB
          go_wp2_with fail
          go_end0
          exact ⟨rfl, dk, HL.out, hsk, S1.out⟩

set_option maxHeartbeats 4000000 in
theorem sortStable {P : Program} {k : Nat} (B : Bas P k) (F : Bod P) (enc : α → List Value) (cf : α → α → Int) (g : Nat) (cb : Array Value) (blk off cap : Nat) (d : Array α) (w : World) (e29 : ∀ args w, (callFunc 29 args).run P w = .ok (.enter 29 args) w)
    (eg : ∀ args w, (callFunc g args).run P w = .ok (.enter g args) w) (hcmp : CmpLays P g cb enc k cf blk off d.size w) (SO : SWO (ltOf cf)) (R : RowK enc k w blk off d) (INS : InsSays P enc k cf g cb blk off cap w d.size) (hsz : d.size < 1000000000000000000) :
    Calls P 16 #[.slice (some ⟨blk, off, none⟩) d.size cap, .func (.func g) #[] cb] w fun e w' => e = .returned (.tuple #[]) ∧ ∃ d' : Array α, d'.toList = isort (ltOf cf) d.toList ∧ d'.size = d.size ∧ SWK enc k w blk off d' w' := by
  have C1 := stable B F enc cf g cb blk off cap d w e29 eg hcmp SO R INS hsz
  have mixed := B.mixed; have t0 := B.t0; have a0 := B.a0; have z0 := B.z0; have v0 := B.v0; have t3 := B.t3; have a3 := B.a3; have z3 := B.z3; have v3 := B.v3; have t24 := B.t24; have a24 := B.a24; have z24 := B.z24; have v24 := B.v24
  have E25 : ∀ args w, (callFunc 25 args).run P w = .ok (.enter 25 args) w := enters_of F.f25 (by kernel_rfl) rfl
  clear INS hcmp R
  go_enter F.f16, Try.ntmps16
  go_wp2_with fail
  refine C1.mono ?_
  clear C1
  rintro e w1 ⟨rfl, d1, hl1, hz1, S2⟩
  have HH : Hid (∃ d' : Array α, d'.toList = isort (ltOf cf) d.toList ∧ d'.size = d.size ∧ SWK enc k w blk off d' w1) := ⟨d1, hl1, hz1, S2⟩
  clear hl1 hz1 S2
  go_wp2_with fail
  go_end0
  exact ⟨rfl, HH.out⟩
end Go.Proofs.Ytjbfjgaghjggpaa.Srt
