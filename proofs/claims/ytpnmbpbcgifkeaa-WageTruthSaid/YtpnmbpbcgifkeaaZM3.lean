/- The fewest numbers: Change's answer and the search's are the same. -/
import Derived.Test.YtpnmbpbcgifkeaaZM2
namespace Go.Proofs.Ytpnmbpbcgifkeaa.Ab.T12
open Go Go.RowKit
set_option linter.unusedVariables false
set_option linter.unusedSimpArgs false
set_option maxRecDepth 100000
/-! ### the search -/
end Go.Proofs.Ytpnmbpbcgifkeaa.Ab.T12
