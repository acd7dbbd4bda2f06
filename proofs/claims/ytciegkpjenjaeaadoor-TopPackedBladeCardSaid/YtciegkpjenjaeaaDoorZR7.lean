/- The reference: a blade's error. The reference: a blade in the worst of all truths; whether a stick is sound. -/
import Derived.Test.YtciegkpjenjaeaaDoorZR3
namespace Go.Proofs.YtciegkpjenjaeaaDoor.Ab.T01
open Go Go.RowKit
set_option linter.unusedSimpArgs false
set_option linter.unusedVariables false
set_option maxRecDepth 100000
end Go.Proofs.YtciegkpjenjaeaaDoor.Ab.T01
namespace Go.Proofs.YtciegkpjenjaeaaDoor.Ab.T01
open Go Go.RowKit
set_option linter.unusedSimpArgs false
set_option linter.unusedVariables false
set_option maxRecDepth 100000
end Go.Proofs.YtciegkpjenjaeaaDoor.Ab.T01
