/- The contract of the library's exchange of two runs of a row, at members. -/
import Derived.Test.YtjbfjgaghjggpaaProg
import Derived.WalkKit
import Derived.WalkSpells
import Derived.WalkLawsBesides
import Derived.Shelf.SlSortCmp.KitK
import Derived.Sort.WalkB2
import Derived.Sort.WalkB12
import Derived.Deep.LoopGhost
set_option linter.unusedVariables false
namespace Go.Proofs.Ytjbfjgaghjggpaa.Srt
open Go.Shelf Go.RowKit Go.Lib Go.Sort
variable {α : Type} [Inhabited α]

/-- What a program must bear for the sort's walks (members' type is 32, its size k). -/
structure Bas (P : Program) (k : Nat) : Prop where
  mixed : P.follows .mixedOrders = true
  t0 : P.underlying 0 = some (TypeDesc.tuple #[])
  a0 : ∀ w, (isAgg 0).run P w = .ok false w
  z0 : ∀ w, (Go.sizeOf 0).run P w = .ok 1 w
  v0 : ∀ w, (zeroValue 0).run P w = .ok (Value.tuple #[]) w
  t3 : P.underlying 3 = some (TypeDesc.int IntKind.i64)
  a3 : ∀ w, (isAgg 3).run P w = .ok false w
  z3 : ∀ w, (Go.sizeOf 3).run P w = .ok 1 w
  v3 : ∀ w, (zeroValue 3).run P w = .ok (Value.int IntKind.i64 0) w
  t4 : P.underlying 4 = some TypeDesc.bool
  a4 : ∀ w, (isAgg 4).run P w = .ok false w
  z4 : ∀ w, (Go.sizeOf 4).run P w = .ok 1 w
  v4 : ∀ w, (zeroValue 4).run P w = .ok (Value.bool false) w
  t24 : P.underlying 24 = some (TypeDesc.slice 32)
  a24 : ∀ w, (isAgg 24).run P w = .ok false w
  z24 : ∀ w, (Go.sizeOf 24).run P w = .ok 1 w
  v24 : ∀ w, (zeroValue 24).run P w = .ok (Value.slice none 0 0) w
  t63 : P.underlying 63 = some (TypeDesc.int IntKind.u64)
  a63 : ∀ w, (isAgg 63).run P w = .ok false w
  z63 : ∀ w, (Go.sizeOf 63).run P w = .ok 1 w
  v63 : ∀ w, (zeroValue 63).run P w = .ok (Value.int IntKind.u64 0) w
  aE : ∀ w, (isAgg 32).run P w = .ok true w
  zE : ∀ w, (Go.sizeOf 32).run P w = .ok k w
theorem bas : Bas Try.prog 9 := ⟨by kernel_rfl, Try.underlying0, Try.isAgg0, Try.sizeOf0, Try.zeroValue0, Try.underlying3, Try.isAgg3, Try.sizeOf3, Try.zeroValue3, Try.underlying4, Try.isAgg4, Try.sizeOf4, Try.zeroValue4, Try.underlying24, Try.isAgg24, Try.sizeOf24, Try.zeroValue24, Try.underlying63, Try.isAgg63, Try.sizeOf63, Try.zeroValue63, Try.isAgg32, Try.sizeOf32⟩

/-- n places from a on against n places from b on, one by one. -/
def swapRun (a b : Nat) : Nat → Array α → Array α
  | 0, d => d
  | n + 1, d => swp (swapRun a b n d) (a + n) (b + n)
theorem swapRun_size (a b n : Nat) (d : Array α) : (swapRun a b n d).size = d.size := by
  induction n with
  | zero => rfl
  | succ n ih => unfold swapRun; rw [size_swp, ih]

set_option maxHeartbeats 4000000 in
set_option maxRecDepth 1000000 in
theorem swapRange {P : Program} {k : Nat} (B : Bas P k) (FG : P.funcs[33]? = some Try.f33) (enc : α → List Value) (g : Nat) (cb : Array Value) (blk off cap a b n : Nat) (d0 d : Array α) (w0 w : World)
    (R : RowK enc k w0 blk off d0) (hs : d0.size = d.size) (S : SWK enc k w0 blk off d w) (ha : a + n ≤ d.size) (hb : b + n ≤ d.size) (hsz : d.size < 4611686018427387904) :
    Calls P 33 #[.slice (some ⟨blk, off, none⟩) d.size cap, .int .i64 a, .int .i64 b, .int .i64 n, .func (.func g) #[] cb] w fun e w' => e = .returned (.tuple #[]) ∧ SWK enc k w0 blk off (swapRun a b n d) w' := by
  have mixed := B.mixed; have t0 := B.t0; have a0 := B.a0; have z0 := B.z0; have v0 := B.v0; have t3 := B.t3; have a3 := B.a3; have z3 := B.z3; have v3 := B.v3; have t4 := B.t4; have a4 := B.a4; have z4 := B.z4; have v4 := B.v4; have t24 := B.t24; have a24 := B.a24; have z24 := B.z24; have v24 := B.v24; have t63 := B.t63; have a63 := B.a63; have z63 := B.z63; have v63 := B.v63; have aE := B.aE; have zE := B.zE
  have S0 : Aside (SWK enc k w0 blk off d w) := S
  clear S
  go_enter FG, Try.ntmps33
  go_wp2
  go_loopg [10] n (fun kx s10 wr => ∃ (i : Nat) (dk : Array α), s10 = .int .i64 i ∧ i ≤ n ∧ n - i ≤ kx ∧ dk = swapRun a b i d ∧ Aside (SWK enc k w0 blk off dk wr))
  case atStart => exact ⟨0, d, rfl, Nat.zero_le _, Nat.le_refl _, rfl, S0⟩
  case round =>
    clear S0
    obtain ⟨i, dk, rfl, hin, hkx, hdk, S1⟩ := hrel
    have hds : dk.size = d.size := by rw [hdk, swapRun_size]
    by_cases hlt : (i : Int) < (n : Int)
    · go_wp2_with fail
      have ea44 : ((a : Int) + (i : Int)).toNat = a + i := by omega
      have pa44 : (0 : Int) ≤ (a : Int) + (i : Int) := by omega
      have ba44 : (a : Int) + (i : Int) < (d.size : Int) := by omega
      have ra44 : IntKind.i64.wrap ((a : Int) + (i : Int)) = (a : Int) + (i : Int) := by rw [IntKind.wrap_i64]; omega
      have ec44 : ((b : Int) + (i : Int)).toNat = b + i := by omega
      have pc44 : (0 : Int) ≤ (b : Int) + (i : Int) := by omega
      have bc44 : (b : Int) + (i : Int) < (d.size : Int) := by omega
      have rc44 : IntKind.i64.wrap ((b : Int) + (i : Int)) = (b : Int) + (i : Int) := by rw [IntKind.wrap_i64]; omega
      have S2 : Aside (SWK enc k w0 blk off (swp dk (a + i) (b + i)) ((wr.drew.setCells blk (off + (a + i) * k) (enc dk[b + i]!)).setCells blk (off + (b + i) * k) (enc dk[a + i]!))) := S1.out.swapped R (a + i) (b + i) (by omega) (by omega)
      have l44a := S1.out.ld1 R (by omega) P (a + i) (by omega)
      have l44b := S1.out.ld1 R (by omega) P (b + i) (by omega)
      have s44a := S1.out.st1 R (by omega) P (a + i) (by omega) dk[b + i]!
      have s44b := S1.out.st2 R (by omega) P (a + i) (b + i) (by omega) (by omega) dk[b + i]! dk[a + i]!
      have n44a : (enc dk[a + i]!).length = k := R.hk _
      have n44b : (enc dk[b + i]!).length = k := R.hk _
      generalize enc dk[a + i]! = cI44 at S2 l44a s44b n44a
      generalize enc dk[b + i]! = cJ44 at S2 l44b s44a s44b n44b
      clear S1
      go_wp2_with fail
      go_big_region_o
      clear l44a l44b s44a s44b
      generalize (wr.drew.setCells blk (off + (a + i) * k) cJ44).setCells blk (off + (b + i) * k) cI44 = w2 at S2 ⊢
      go_wp2
      go_roundg (n - (i + 1))
      case measure => omega
      case rel => exact ⟨i + 1, swp dk (a + i) (b + i), by simp, by omega, Nat.le_refl _, by rw [hdk]; rfl, S2⟩
    · go_wp2
      go_end0
      obtain rfl : i = n := by omega
      rw [← hdk]
      exact ⟨rfl, S1.out⟩
end Go.Proofs.Ytjbfjgaghjggpaa.Srt
