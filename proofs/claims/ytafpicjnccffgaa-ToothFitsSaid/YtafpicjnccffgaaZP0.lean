/- The reference's block is the program's. -/
import Derived.Test.YtafpicjnccffgaaZR9
namespace Go.Proofs.Ytafpicjnccffgaa.Ab.T01
open Go Go.RowKit
set_option linter.unusedSimpArgs false
set_option linter.unusedVariables false
set_option maxRecDepth 100000
theorem block3_spec (v : Vw) (s : Sw) (x : Nat) (hv : v.Ok) (hs : sawOk s = true) (hx : x + s.long.toNat ≤ v.bottom.length) : SpecF Try.prog 70 [.agg [.sl 1 (v.bottom.map iR), .sl 1 (v.top.map iR), .sl 6 (v.spoils.map refR)], .agg [.v (.int .i64 s.long), .v (.int .i64 s.wide), .v (.int .i64 s.kerf), .v (.int .i64 s.across)], .v (.int .i64 x)] (.sl 1 ((blockI v s x).map iR)) [] := by
  rw [← block_law hv hs hx]
  exact block2_spec v s x hv hs hx
theorem mostF_spec (b : Bl) (s : Sw) (h1 : b.bottom.length < 1000000) (h2 : b.top.length < 1000000) : SpecF Try.prog 22 [.agg [.sl 2 (b.bottom.map spR), .sl 2 (b.top.map spR), .v (.int .i64 b.bend), .sl 6 (b.cracks.map crR)], .agg [.v (.int .i64 s.long), .v (.int .i64 s.wide), .v (.int .i64 s.kerf), .v (.int .i64 s.across)]]
    (.tup [.sl 2 ((mostL b s).map plcR), .v (.int .i64 (openErr b s))]) [] := (mostB_spec b s h1 h2).frz
theorem curveF_spec (b : Bl) (h1 : b.bottom.length < 1000000) (h2 : b.top.length < 1000000) : SpecF Try.prog 32 [.agg [.sl 2 (b.bottom.map spR), .sl 2 (b.top.map spR), .v (.int .i64 b.bend), .sl 6 (b.cracks.map crR)]]
    (.tup [.sl 2 ((newLow b).map spR), .sl 2 ((newTop b).map spR), .v (.int .i64 (newErr b))]) [] := (curve_spec b h1 h2).frz
theorem costsF_spec (b : Bl) (s : Sw) (h1 : b.bottom.length < 1000000) (h2 : b.top.length < 1000000) : SpecF Try.prog 25 [.agg [.sl 2 (b.bottom.map spR), .sl 2 (b.top.map spR), .v (.int .i64 b.bend), .sl 6 (b.cracks.map crR)], .agg [.v (.int .i64 s.long), .v (.int .i64 s.wide), .v (.int .i64 s.kerf), .v (.int .i64 s.across)]]
    (.tup [.sl 1 ((costsL b s).map iR), .v (.int .i64 (openErr b s))]) [] := (costs_spec b s h1 h2).frz
end Go.Proofs.Ytafpicjnccffgaa.Ab.T01
