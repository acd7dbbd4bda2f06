/- The document's bills: copies, comparisons, marks, numbers. -/
import Derived.Test.YtpnmbpbcgifkeaaZH3
namespace Go.Proofs.Ytpnmbpbcgifkeaa.Ab.T12
open Go Go.RowKit
set_option linter.unusedVariables false
set_option linter.unusedSimpArgs false
set_option maxRecDepth 100000
end Go.Proofs.Ytpnmbpbcgifkeaa.Ab.T12
