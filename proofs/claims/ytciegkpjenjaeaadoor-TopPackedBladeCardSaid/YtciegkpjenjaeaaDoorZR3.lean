/- The reference: numbers between two others, spans, and at which heights an edge can be. The reference: at which heights an edge can be. The reference: what an edge can be in all truths. What an edge can be by the reference is what the program says: plain. -/
import Derived.Test.YtciegkpjenjaeaaDoorZR1
namespace Go.Proofs.YtciegkpjenjaeaaDoor.Ab.T01
open Go Go.RowKit
set_option linter.unusedVariables false
set_option linter.unusedSimpArgs false
set_option maxRecDepth 100000
def bR (b : Bool) : List DV := [.v (.bool b)]
end Go.Proofs.YtciegkpjenjaeaaDoor.Ab.T01
namespace Go.Proofs.YtciegkpjenjaeaaDoor.Ab.T01
open Go Go.RowKit
set_option linter.unusedSimpArgs false
set_option linter.unusedVariables false
set_option maxRecDepth 100000
end Go.Proofs.YtciegkpjenjaeaaDoor.Ab.T01
namespace Go.Proofs.YtciegkpjenjaeaaDoor.Ab.T01
open Go Go.RowKit
set_option linter.unusedSimpArgs false
set_option linter.unusedVariables false
set_option maxRecDepth 100000
end Go.Proofs.YtciegkpjenjaeaaDoor.Ab.T01
namespace Go.Proofs.YtciegkpjenjaeaaDoor.Ab.T01
open Go Go.RowKit
set_option linter.unusedSimpArgs false
set_option linter.unusedVariables false
/-- A span holds a height. -/
def inS (s : Sp) (h : Int) : Prop := s.1 ≤ h ∧ h ≤ s.2
end Go.Proofs.YtciegkpjenjaeaaDoor.Ab.T01
