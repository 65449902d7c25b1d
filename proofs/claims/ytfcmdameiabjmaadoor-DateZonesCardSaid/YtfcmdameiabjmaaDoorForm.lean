/- What date.Print writes, as a list. -/
import Derived.Test.YtfcmdameiabjmaaDoorPri
set_option linter.unusedVariables false
namespace Go.Proofs.YtfcmdameiabjmaaDoor.Fun
open Go.RowKit Go.Proofs.YtfcmdameiabjmaaDoor.Pr Go.Proofs.YtfcmdameiabjmaaDoorW.PrintWords Go.Proofs.YtfcmdameiabjmaaDoorW.PrintLast Go.Proofs.YtfcmdameiabjmaaDoorW.PrintMore
open Go.Proofs.YtfcmdameiabjmaaDoor.Txt

/-- The list of a text of an instant's form. -/
def formL (Y M D H I S R : List UInt8) : List UInt8 := Y ++ 45 :: (M ++ 45 :: (D ++ 84 :: (H ++ 58 :: (I ++ 58 :: (S ++ R)))))

/-- What may stand behind the seconds: a fraction of n billionths (or none), then a zone. -/
def fracL (n : Int) : List UInt8 := if n > 0 then 46 :: Lib.trimRightB (padL n 9) 48 else []

theorem lit_mk (c : UInt8) : (⟨#[c]⟩ : ByteArray) = mk [c] := rfl
/-- What date.Print writes, as a list. -/
theorem printT_list (a n : Int) : (printT a n).data.toList = formL (padL (civN a).1 4) (padL (civN a).2.1 2) (padL (civN a).2.2 2) (padL (secN a / 3600) 2) (padL (secN a / 60 % 60) 2) (padL (secN a % 60) 2) (fracL n ++ [90]) := by
  unfold printT headT headB formL fracL
  by_cases h : n > 0
  · rw [if_pos h, if_pos h]
    simp only [ByteArray.data_append, Array.toList_append, mk_list, List.append_assoc, List.cons_append, List.nil_append]
  · rw [if_neg h, if_neg h]
    simp only [ByteArray.data_append, Array.toList_append, mk_list, List.append_assoc, List.cons_append, List.nil_append]

end Go.Proofs.YtfcmdameiabjmaaDoor.Fun
