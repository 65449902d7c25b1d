/- The contract of the library's turning of two neighbours, at members. -/
import Derived.Test.YtjbfjgaghjggpaaRot
import Derived.Lib.Hide
set_option linter.unusedVariables false
namespace Go.Proofs.Ytjbfjgaghjggpaa.Srt
open Go.Shelf Go.RowKit Go.Lib Go.Sort
variable {α : Type} [Inhabited α]
set_option maxHeartbeats 4000000 in
set_option maxRecDepth 1000000 in
theorem rotate {P : Program} {k : Nat} (B : Bas P k) (FG : P.funcs[32]? = some Try.f32) (FS : P.funcs[33]? = some Try.f33) (enc : α → List Value) (g : Nat) (cb : Array Value) (blk off cap a m b : Nat) (d0 d : Array α) (w0 w : World)
    (R : RowK enc k w0 blk off d0) (hs : d0.size = d.size) (S : SWK enc k w0 blk off d w) (ha : a < m) (hb : m < b) (hb2 : b ≤ d.size) (hsz : d.size < 4611686018427387904) :
    Calls P 32 #[.slice (some ⟨blk, off, none⟩) d.size cap, .int .i64 a, .int .i64 m, .int .i64 b, .func (.func g) #[] cb] w fun e w' => e = .returned (.tuple #[]) ∧ SWK enc k w0 blk off (rotLoop m (b - a) (m - a) (b - m) d) w' := by
  have mixed := B.mixed; have t0 := B.t0; have a0 := B.a0; have z0 := B.z0; have v0 := B.v0; have t3 := B.t3; have a3 := B.a3; have z3 := B.z3; have v3 := B.v3; have t4 := B.t4; have a4 := B.a4; have z4 := B.z4; have v4 := B.v4; have t24 := B.t24; have a24 := B.a24; have z24 := B.z24; have v24 := B.v24; have t63 := B.t63; have a63 := B.a63; have z63 := B.z63; have v63 := B.v63; have aE := B.aE; have zE := B.zE
  have S0 : Aside (SWK enc k w0 blk off d w) := S
  clear S
  go_enter FG, Try.ntmps32
  go_wp2
  have E33 : ∀ args w, (callFunc 33 args).run P w = .ok (.enter 33 args) w := enters_of FS (by kernel_rfl) rfl
  go_loopg [10, 11] (b - a) (fun kx s10 s11 wr => ∃ (i j q : Nat) (dk : Array α), s10 = .int .i64 i ∧ s11 = .int .i64 j ∧ 1 ≤ i ∧ 1 ≤ j ∧ i ≤ m - a ∧ j ≤ b - m ∧ i + j ≤ kx ∧ i + j ≤ q ∧ dk.size = d.size ∧ rotLoop m q i j dk = rotLoop m (b - a) (m - a) (b - m) d ∧ Aside (SWK enc k w0 blk off dk wr))
  case atStart => exact ⟨m - a, b - m, b - a, d, by go_num, by go_num, by omega, by omega, by omega, by omega, by omega, by omega, rfl, rfl, S0⟩
  case round =>
    clear S0
    obtain ⟨i, j, q, dk, rfl, rfl, hi, hj, hia, hjb, hkx, hq, hds, heq, S1⟩ := hrel
    obtain ⟨q, rfl⟩ : ∃ x, q = x + 1 := ⟨q - 1, by omega⟩
    rw [rotLoop] at heq
    have HQ := Lib.hid heq
    clear heq
    have em : (m : Int) - (i : Int) = ((m - i : Nat) : Int) := by omega
    have C := fun (a b n : Nat) (h1 : a + n ≤ dk.size) (h2 : b + n ≤ dk.size) => swapRange B FS enc g cb blk off cap a b n d0 dk w0 wr R (by omega) S1.out h1 h2 (by omega)
    rw [hds] at C
    clear S1
    by_cases e : i = j
    · subst e
      have C1 := C (m - i) m i (by omega) (by omega)
      clear C
      go_wp2_with (go_at_fn 33; refine C1.mono ?_; rintro e w2 ⟨rfl, S2⟩)
      go_end0
      have := HQ.out
      rw [if_pos trivial] at this
      rw [← this]
      exact ⟨rfl, S2⟩
    · have ez : ¬ ((i : Int) = (j : Int)) := by omega
      by_cases lt : j < i
      · have ltz : (j : Int) < (i : Int) := by omega
        have C1 := C (m - i) m j (by omega) (by omega)
        clear C
        go_wp2_with (go_at_fn 33; refine C1.mono ?_; rintro e w2 ⟨rfl, S2⟩)
        go_roundg (i - j + j)
        case measure => omega
        case rel => exact ⟨i - j, j, q, _, by go_num, rfl, by omega, hj, by omega, hjb, by omega, by omega, by rw [swapRun_size, hds], by have := HQ.out; rw [if_neg e, if_pos lt] at this; exact this, S2⟩
      · have ltz : ¬ ((j : Int) < (i : Int)) := by omega
        have em2 : (m : Int) + (j : Int) - (i : Int) = ((m + j - i : Nat) : Int) := by omega
        have C1 := C (m - i) (m + j - i) i (by omega) (by omega)
        clear C
        go_wp2_with (go_at_fn 33; refine C1.mono ?_; rintro e w2 ⟨rfl, S2⟩)
        go_roundg (i + (j - i))
        case measure => omega
        case rel => exact ⟨i, j - i, q, _, rfl, by go_num, hi, by omega, hia, by omega, by omega, by omega, by rw [swapRun_size, hds], by have := HQ.out; rw [if_neg e, if_neg lt] at this; exact this, S2⟩
end Go.Proofs.Ytjbfjgaghjggpaa.Srt
