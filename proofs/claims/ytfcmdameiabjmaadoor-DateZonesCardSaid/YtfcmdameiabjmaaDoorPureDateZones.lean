/- DateZones: what the law's function answers, in plain Lean. -/
import Derived.Test.YtfcmdameiabjmaaDoorAwk
import Derived.Test.YtfcmdameiabjmaaDoorBck
import Derived.Test.YtfcmdameiabjmaaDoorPrx12
set_option linter.unusedVariables false
namespace Go.Proofs.YtfcmdameiabjmaaDoor.Pure
open Go.RowKit Go.Proofs.YtfcmdameiabjmaaDoor.Pr Go.Proofs.YtfcmdameiabjmaaDoorW.PrintWords Go.Proofs.YtfcmdameiabjmaaDoorW.PrintLast Go.Proofs.YtfcmdameiabjmaaDoor.Fun Go.Proofs.YtfcmdameiabjmaaDoor.Txt
theorem dparse (s : ByteArray) (h : s.size ≤ 140737488351232) : Go.Proofs.YtfcmdameiabjmaaDoor.Txt.date_Parse.f s = some (Go.Proofs.YtfcmdameiabjmaaDoor.Txt.parseR s) := by
  unfold Go.Proofs.YtfcmdameiabjmaaDoor.Txt.date_Parse.f
  rw [if_pos h]
/-- The five bytes of a zone's numbers. -/
def zoneL (h m : Nat) : List UInt8 := [UInt8.ofNat (48 + h / 10), UInt8.ofNat (48 + h % 10), 58, UInt8.ofNat (48 + m / 10), UInt8.ofNat (48 + m % 10)]
theorem dig_of (x : Nat) (h : x < 10) : (UInt8.ofNat (48 + x)).toNat = 48 + x := by simp; omega
theorem two_dig (x : Nat) (h : x < 100) : allDig [UInt8.ofNat (48 + x / 10), UInt8.ofNat (48 + x % 10)] = true ∧ val [UInt8.ofNat (48 + x / 10), UInt8.ofNat (48 + x % 10)] = x := by
  have a := dig_of (x / 10) (by omega)
  have b := dig_of (x % 10) (by omega)
  constructor
  · unfold allDig
    rw [List.all_cons, List.all_cons, List.all_nil, (isDig_iff _).2 (by omega), (isDig_iff _).2 (by omega)]; rfl
  · show (0 * 10 + ((UInt8.ofNat (48 + x / 10)).toNat - 48)) * 10 + ((UInt8.ofNat (48 + x % 10)).toNat - 48) = x
    rw [a, b]; omega
theorem zone_read (c : UInt8) (hc : c = 43 ∨ c = 45) (h m : Nat) (hh : h < 24) (hm : m < 60) : zR (mk (c :: zoneL h m)) = (if c = 45 then -(h : Int) * 3600 - m * 60 else (h : Int) * 3600 + m * 60, true) := by
  have n1 : numAt (mk (c :: zoneL h m)) 1 2 = (h : Nat) := by
    have := num_of (mk (c :: zoneL h m)) 1 2 [UInt8.ofNat (48 + h / 10), UInt8.ofNat (48 + h % 10)] rfl rfl (by decide) (two_dig h (by omega)).1
    rw [(two_dig h (by omega)).2] at this
    exact this
  have n2 : numAt (mk (c :: zoneL h m)) 4 2 = (m : Nat) := by
    have := num_of (mk (c :: zoneL h m)) 4 2 [UInt8.ofNat (48 + m / 10), UInt8.ofNat (48 + m % 10)] rfl rfl (by decide) (two_dig m (by omega)).1
    rw [(two_dig m (by omega)).2] at this
    exact this
  have s3 : sigAt (mk (c :: zoneL h m)) 3 58 = true := by unfold sigAt; rfl
  have hg : zG (mk (c :: zoneL h m)) = true := by
    unfold zG
    rw [s3, n1, n2]
    simp
    omega
  have h0 : ∀ x, sigAt (mk (c :: zoneL h m)) 0 x = decide (c = x) := by intro x; unfold sigAt; simp [mk_list]
  unfold zR
  rw [if_neg (by rw [mk_list]; unfold zoneL; simp), h0, h0, n1, n2]
  have hcnd : (mk (c :: zoneL h m)).size = 6 ∧ (decide (c = 43) = true ∨ decide (c = 45) = true) ∧ zG (mk (c :: zoneL h m)) = true := ⟨rfl, by rcases hc with rfl | rfl <;> simp, hg⟩
  rw [if_pos hcnd]
  by_cases h45 : c = 45
  · rw [if_pos h45, if_pos (by simpa using h45)]
  · rw [if_neg h45, if_neg (by simpa using h45)]
theorem print_cut (a n : Int) (h : inR a n) (c : UInt8) (r : List UInt8) : (((printT a n).extract 0 ((printT a n).size - 1)) ++ (⟨#[c]⟩ : ByteArray) ++ mk r).data.toList = formL (padL (civN a).1 4) (padL (civN a).2.1 2) (padL (civN a).2.2 2) (padL (secN a / 3600) 2) (padL (secN a / 60 % 60) 2) (padL (secN a % 60) 2) (fracL n ++ c :: r) := by
  have e : ∀ (Y M D H I S F : List UInt8) (x : UInt8), formL Y M D H I S (F ++ [x]) = formL Y M D H I S F ++ [x] := by intros; unfold formL; simp
  have e2 : ∀ (Y M D H I S F : List UInt8) (x : List UInt8), formL Y M D H I S (F ++ x) = formL Y M D H I S F ++ x := by intros; unfold formL; simp
  rw [ByteArray.data_append, ByteArray.data_append, Array.toList_append, Array.toList_append, ext0_list, mk_list]
  have hl : (printT a n).data.toList.length = (printT a n).size := rfl
  rw [← hl, printT_list, e, e2]
  rw [List.length_append, List.length_singleton, Nat.add_sub_cancel, List.take_left' rfl, List.append_assoc]
  rfl
theorem so_zone (h m : Nat) (hh : h < 24) (hm : m < 60) : strOfNums ([(48 + (h : Int) / 10) % 256, (48 + (h : Int) % 10) % 256, 58, (48 + (m : Int) / 10) % 256, (48 + (m : Int) % 10) % 256]) = mk (zoneL h m) := by
  have a1 : (48 + (h : Int) / 10) % 256 = ((48 + h / 10 : Nat) : Int) := by omega
  have a2 : (48 + (h : Int) % 10) % 256 = ((48 + h % 10 : Nat) : Int) := by omega
  have a3 : (48 + (m : Int) / 10) % 256 = ((48 + m / 10 : Nat) : Int) := by omega
  have a4 : (48 + (m : Int) % 10) % 256 = ((48 + m % 10 : Nat) : Int) := by omega
  rw [a1, a2, a3, a4]
  rfl
theorem DateZones : ∀ (a0_0 a0_1 a1 a2 : Int), (Lit.int .i64 a0_0).wf = true → (Lit.int .i64 a0_1).wf = true → (Lit.int .u8 a1).wf = true → (Lit.int .u8 a2).wf = true → ∃ k, broadsheetlaw11_DateZones.f k a0_0 a0_1 a1 a2 = some true := by
  intro a n x y _ _ hx hy
  refine ⟨50, ?_⟩
  have hx' : 0 ≤ x ∧ x ≤ 255 := wf8 hx
  have hy' : 0 ≤ y ∧ y ≤ 255 := wf8 hy
  unfold broadsheetlaw11_DateZones.f
  rw [awake_eq 50 (by decide)]
  simp only [Option.bind_some]
  rw [if_pos trivial]
  by_cases hr : inR a n
  · rw [print_ok 50 (by omega) _ _ hr]
    simp only [Option.bind_some]
    have hsz := printT_size a n hr
    have h20 : 20 ≤ (printT a n).size := by
      obtain ⟨s0, s1, z1, z2, z3, z4, z5, z6⟩ := print_fields a hr.1 hr.2.1
      have l5 : (⟨#[90]⟩ : ByteArray).size = 1 := rfl
      have hh : (headT a).size = 19 := by unfold headT; rw [headB_size]; omega
      unfold printT
      split <;> simp only [ByteArray.size_append] <;> omega
    rw [if_pos trivial, decide_eq_false (by omega)]
    obtain ⟨h, hh⟩ : ∃ h : Nat, x % 24 = h := ⟨(x % 24).toNat, by omega⟩
    obtain ⟨m, hm⟩ : ∃ m : Nat, y % 60 = m := ⟨(y % 60).toNat, by omega⟩
    have hh2 : h < 24 := by omega
    have hm2 : m < 60 := by omega
    simp only [broadsheetlaw11_DateZones.j0]
    rw [if_neg (by decide), w64 (n := x) (by omega), w64 (n := y) (by omega), tm (a := x) hx'.1, tm (a := y) hy'.1, hh, hm, tm (a := (h : Int)) (by omega), tm (a := (m : Int)) (by omega), td (a := (h : Int)) (by omega), td (a := (m : Int)) (by omega)]
    rw [w64 (n := (h : Int) / 10) (by omega), w64 (n := (m : Int) / 10) (by omega), w64 (n := 48 + (h : Int) / 10) (by omega), w64 (n := 48 + (m : Int) / 10) (by omega), w64 (n := 48 + (h : Int) % 10) (by omega), w64 (n := 48 + (m : Int) % 10) (by omega)]
    simp only [Option.bind_some]
    rw [so_zone h m hh2 hm2, w64 (n := ((printT a n).size : Int) - 1) (by omega)]
    have hn : (((printT a n).size : Int) - 1).toNat = (printT a n).size - 1 := by omega
    rw [hn]
    have hzs : (mk (zoneL h m)).size = 5 := rfl
    have hes : ((printT a n).extract 0 ((printT a n).size - 1)).size ≤ 40 := by rw [ByteArray.size_extract]; omega
    have l1 : (⟨#[43]⟩ : ByteArray).size = 1 := rfl
    have l2 : (⟨#[45]⟩ : ByteArray).size = 1 := rfl
    have P1 := form_parse _ a n hr _ 43 (zoneL h m) rfl (by decide) (print_cut a n hr 43 (zoneL h m)) (zone_read 43 (Or.inl rfl) h m hh2 hm2)
    have P2 := form_parse _ a n hr _ 45 (zoneL h m) rfl (by decide) (print_cut a n hr 45 (zoneL h m)) (zone_read 45 (Or.inr rfl) h m hh2 hm2)
    rw [if_neg (by decide)] at P1
    rw [if_pos rfl] at P2
    rw [if_pos (by omega), if_pos (by omega), if_pos (by omega), if_pos (by simp only [ByteArray.size_append]; omega)]
    rw [dparse _ (by simp only [ByteArray.size_append]; omega), P1]
    simp only [Option.bind_some]
    rw [if_pos (by simp only [ByteArray.size_append]; omega), dparse _ (by simp only [ByteArray.size_append]; omega), P2]
    simp only [Option.bind_some]
    obtain ⟨r0, r1, _⟩ := hr
    rw [w64 (n := (h : Int) * 3600) (by omega), w64 (n := (m : Int) * 60) (by omega), w64 (n := a - (h : Int) * 3600) (by omega), w64 (n := a - (h : Int) * 3600 - (m : Int) * 60) (by omega), w64 (n := a + (h : Int) * 3600) (by omega), w64 (n := a + (h : Int) * 3600 + (m : Int) * 60) (by omega)]
    have e1 : a - ((h : Int) * 3600 + m * 60) = a - (h : Int) * 3600 - (m : Int) * 60 := by omega
    have e2 : a - (-(h : Int) * 3600 - m * 60) = a + (h : Int) * 3600 + (m : Int) * 60 := by omega
    rw [e1, e2]
    simp
  · rw [print_bad 50 (by omega) _ _ hr]
    simp only [Option.bind_some]
    rw [if_neg (by decide)]
    simp only [broadsheetlaw11_DateZones.j0]
    rw [if_pos trivial, if_pos trivial, toList_data]
    rfl
end Go.Proofs.YtfcmdameiabjmaaDoor.Pure
