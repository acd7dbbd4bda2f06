/- Contracts of the parts of Fault. The contract of Fault. -/
import Derived.Test.YtdgeocjchnandaaZP0
namespace Go.Proofs.Ytdgeocjchnandaa.Ab.T01
open Go Go.RowKit
set_option linter.unusedSimpArgs false
set_option linter.unusedVariables false
set_option maxRecDepth 100000
end Go.Proofs.Ytdgeocjchnandaa.Ab.T01
namespace Go.Proofs.Ytdgeocjchnandaa.Ab.T01
open Go Go.RowKit
set_option linter.unusedSimpArgs false
set_option linter.unusedVariables false
set_option maxRecDepth 100000
structure OnBlade (v : Vw) (s : Sw) (p : Int × Int) : Prop where
  x0 : 0 ≤ p.1
  x1 : p.1 + s.long ≤ v.bottom.length
  y0 : 0 ≤ p.2
  y1 : p.2 ≤ 300
def soundI (v : Vw) (s : Sw) (p : Int × Int) : Bool := refSound v s.long.toNat s.wide p.1.toNat p.2
end Go.Proofs.Ytdgeocjchnandaa.Ab.T01
