/- The bound by the reference is the program's: plain. The layout with the most sticks by the reference is the program's: plain. The widest sticks by the reference are the program's: plain. -/
import Derived.Test.YtciegkpjenjaeaaDoorZR9
namespace Go.Proofs.YtciegkpjenjaeaaDoor.Ab.T01
open Go Go.RowKit
set_option linter.unusedSimpArgs false
set_option linter.unusedVariables false
end Go.Proofs.YtciegkpjenjaeaaDoor.Ab.T01
namespace Go.Proofs.YtciegkpjenjaeaaDoor.Ab.T01
open Go Go.RowKit
set_option linter.unusedSimpArgs false
set_option linter.unusedVariables false
end Go.Proofs.YtciegkpjenjaeaaDoor.Ab.T01
namespace Go.Proofs.YtciegkpjenjaeaaDoor.Ab.T01
open Go Go.RowKit
set_option linter.unusedSimpArgs false
set_option linter.unusedVariables false
end Go.Proofs.YtciegkpjenjaeaaDoor.Ab.T01
