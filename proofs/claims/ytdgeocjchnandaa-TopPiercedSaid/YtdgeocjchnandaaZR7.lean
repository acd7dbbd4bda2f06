/- The reference: a blade's error. The reference: a blade in the worst of all truths; whether a stick is sound. -/
import Derived.Test.YtdgeocjchnandaaZR3
namespace Go.Proofs.Ytdgeocjchnandaa.Ab.T01
open Go Go.RowKit
set_option linter.unusedSimpArgs false
set_option linter.unusedVariables false
set_option maxRecDepth 100000
end Go.Proofs.Ytdgeocjchnandaa.Ab.T01
namespace Go.Proofs.Ytdgeocjchnandaa.Ab.T01
open Go Go.RowKit
set_option linter.unusedSimpArgs false
set_option linter.unusedVariables false
set_option maxRecDepth 100000
/-- Does the column leave a stick sound? -/
def colOk (v : Vw) (wide y : Int) (c : Nat) : Bool := decide (nth v.bottom c ≤ y) && decide (y + wide ≤ nth v.top c) && v.spoils.all fun s => !(betw s.col.1 s.col.2 [(c : Int)] && decide (s.ht.2 > y) && decide (s.ht.1 < y + wide))
def refSound (v : Vw) (long : Nat) (wide : Int) (x : Nat) (y : Int) : Bool := (List.range long).all fun d => colOk v wide y (x + d)
end Go.Proofs.Ytdgeocjchnandaa.Ab.T01
