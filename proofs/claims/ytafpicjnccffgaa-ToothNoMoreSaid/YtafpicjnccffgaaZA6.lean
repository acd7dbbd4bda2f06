/- The arguments of the laws of the teeth: bytes. -/
import Derived.Test.YtafpicjnccffgaaZAbS
import Derived.Test.YtafpicjnccffgaaZNF
namespace Go.Proofs.Ytafpicjnccffgaa.Ab.T01
open Go Go.RowKit
set_option linter.unusedSimpArgs false
set_option linter.unusedVariables false
theorem fit_by (r : List DV) (h : FitL [.int .u8] r) : ∃ c : Int, r = u8R c ∧ By c := by
  obtain ⟨a0, _, rfl, b0, h⟩ := fit_int h
  obtain rfl := fit_nil h
  exact ⟨a0, rfl, fit_u8 b0⟩
end Go.Proofs.Ytafpicjnccffgaa.Ab.T01
