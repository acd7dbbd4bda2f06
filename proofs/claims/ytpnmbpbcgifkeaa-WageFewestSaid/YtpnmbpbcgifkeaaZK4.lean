/- All lines that a line can be, and the ways: the document's. -/
import Derived.Test.YtpnmbpbcgifkeaaZK2
namespace Go.Proofs.Ytpnmbpbcgifkeaa.Ab.T12
open Go Go.RowKit
set_option linter.unusedVariables false
set_option linter.unusedSimpArgs false
set_option maxRecDepth 100000
theorem rowT_len (l : Ln) (m e : Nat) : (rowT l m e).length ≤ e := by
  unfold rowT
  have h := List.length_filter_le (fitL l) ((List.range e).map (cand m))
  simpa using h
theorem allT_len (l : Ln) : ∀ m, (allT l m).length ≤ 51 * m
  | 0 => by simp [allT]
  | m + 1 => by
    have h1 := allT_len l m
    have h2 := rowT_len l m 51
    rw [allT_succ, List.length_append]
    omega
theorem allL_len (l : Ln) : (allL l).length ≤ 2601 := allT_len l 51
end Go.Proofs.Ytpnmbpbcgifkeaa.Ab.T12
