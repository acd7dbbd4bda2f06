/- The document's bills: copies, comparisons, marks, numbers. -/
import Derived.Test.YtpnmbpbcgifkeaaZH3
namespace Go.Proofs.Ytpnmbpbcgifkeaa.Ab.T12
open Go Go.RowKit
set_option linter.unusedVariables false
set_option linter.unusedSimpArgs false
set_option maxRecDepth 100000
/-- The first marks of a bill. -/
def allM (n i : Nat) : List (Int × Int) := (List.range i).map (markAt n)
theorem allM_len (n i : Nat) : (allM n i).length = i := by simp [allM]
theorem allM_succ (n i : Nat) : allM n (i + 1) = allM n i ++ [markAt n i] := by simp [allM, List.range_succ]
theorem allM_nth {n i j : Nat} (h : j < i) : nth (allM n i) j = markAt n j := by
  unfold nth allM
  simp [List.getD_eq_getElem?_getD, h]
theorem markAt_line {n i f : Nat} (hi : i < n) (hf : f < 3) : markAt n (i * 3 + f) = ((i : Int), ((f + 1 : Nat) : Int)) := by
  rw [markAt_lt (by omega), show (i * 3 + f) / 3 = i by omega, show 1 + (i * 3 + f) % 3 = f + 1 by omega]
end Go.Proofs.Ytpnmbpbcgifkeaa.Ab.T12
