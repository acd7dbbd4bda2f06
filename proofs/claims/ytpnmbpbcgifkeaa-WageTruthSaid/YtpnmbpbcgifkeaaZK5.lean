/- The ways: the document's, as a list. -/
import Derived.Test.YtpnmbpbcgifkeaaZK4
namespace Go.Proofs.Ytpnmbpbcgifkeaa.Ab.T12
open Go Go.RowKit
set_option linter.unusedVariables false
set_option linter.unusedSimpArgs false
set_option maxRecDepth 100000
/-- All right bills, the first lines of which are chosen. -/
def waysL (tot : Int) : List Ln → List Ln → List Bl
  | [], now => if tot ≠ -1 ∧ tot ≠ sumA now now.length then [] else [⟨now, sumA now now.length⟩]
  | l :: ls, now => (allL l).flatMap fun x => waysL tot ls (now ++ [x])
end Go.Proofs.Ytpnmbpbcgifkeaa.Ab.T12
