/- All lines that a line can be, and the ways: the document's. -/
import Derived.Test.YtpnmbpbcgifkeaaZK2
namespace Go.Proofs.Ytpnmbpbcgifkeaa.Ab.T12
open Go Go.RowKit
set_option linter.unusedVariables false
set_option linter.unusedSimpArgs false
set_option maxRecDepth 100000
end Go.Proofs.Ytpnmbpbcgifkeaa.Ab.T12
