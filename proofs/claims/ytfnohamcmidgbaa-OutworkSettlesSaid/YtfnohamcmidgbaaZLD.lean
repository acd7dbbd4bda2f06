/- What is due, so far. -/
import Derived.Test.YtfnohamcmidgbaaZL0
namespace Go.Proofs.Ytfnohamcmidgbaa.Ab.T07
open Go Go.RowKit
set_option linter.unusedVariables false
set_option linter.unusedSimpArgs false
set_option maxRecDepth 100000
/-- What is due, so far. -/
def dueL (f : Nat → Int) (n : Nat) : List Int := (List.range n).map f
theorem dueL_len (f : Nat → Int) (n : Nat) : (dueL f n).length = n := by simp [dueL]
theorem dueL_succ (f : Nat → Int) (n : Nat) : dueL f (n + 1) = dueL f n ++ [f n] := by unfold dueL; rw [List.range_succ, List.map_append]; rfl
theorem dueL_zero (f : Nat → Int) : dueL f 0 = [] := rfl
end Go.Proofs.Ytfnohamcmidgbaa.Ab.T07
