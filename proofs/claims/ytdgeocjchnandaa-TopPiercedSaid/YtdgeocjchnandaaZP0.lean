/- The reference's block is the program's. The layout with the most sticks by the reference is the program's: plain. The widest sticks by the reference are the program's: plain. -/
import Derived.Test.YtdgeocjchnandaaZR9
namespace Go.Proofs.Ytdgeocjchnandaa.Ab.T01
open Go Go.RowKit
set_option linter.unusedSimpArgs false
set_option linter.unusedVariables false
set_option maxRecDepth 100000
theorem mostF_spec (b : Bl) (s : Sw) (h1 : b.bottom.length < 1000000) (h2 : b.top.length < 1000000) : SpecF Try.prog 4 [.agg [.sl 2 (b.bottom.map spR), .sl 2 (b.top.map spR), .v (.int .i64 b.bend), .sl 6 (b.cracks.map crR)], .agg [.v (.int .i64 s.long), .v (.int .i64 s.wide), .v (.int .i64 s.kerf), .v (.int .i64 s.across)]]
    (.tup [.sl 2 ((mostL b s).map plcR), .v (.int .i64 (openErr b s))]) [] := (mostB_spec b s h1 h2).frz
end Go.Proofs.Ytdgeocjchnandaa.Ab.T01
namespace Go.Proofs.Ytdgeocjchnandaa.Ab.T01
open Go Go.RowKit
set_option linter.unusedSimpArgs false
set_option linter.unusedVariables false
theorem bst_mono1 {f : Nat → Nat} {n long step : Nat} (hs : 1 ≤ step) (hl : 1 ≤ long) (x : Nat) : bst f n long step (x + 1) ≤ bst f n long step x := by
  by_cases h : x + long ≤ n
  · rw [bst_step hs hl h]; omega
  · rw [bst_end (x := x + 1) (by omega)]; omega
theorem bst_mono {f : Nat → Nat} {n long step : Nat} (hs : 1 ≤ step) (hl : 1 ≤ long) (x : Nat) : ∀ d, bst f n long step (x + d) ≤ bst f n long step x
  | 0 => Nat.le_refl _
  | d + 1 => Nat.le_trans (bst_mono1 hs hl (x + d)) (bst_mono hs hl x d)
/-- The layout has as many sticks as there can be. -/
theorem mostG_len {f : Nat → List Int} {n long step : Nat} (hs : 1 ≤ step) (hl : 1 ≤ long) : ∀ (r x : Nat), n + 1 - x ≤ r → (mostG f n long step x).length = bst (fun x => (f x).length) n long step x
  | 0, x, h => by rw [mostG_end (by omega), bst_end (by omega)]; rfl
  | r + 1, x, h => by
    by_cases hc : x + long ≤ n
    · have i1 := mostG_len hs hl (f := f) (n := n) r (x + 1) (by omega)
      have i2 := mostG_len hs hl (f := f) (n := n) r (x + step) (by omega)
      have hm := bst_mono (f := fun x => (f x).length) (n := n) hs hl (x + 1) (step - 1)
      rw [show x + 1 + (step - 1) = x + step by omega] at hm
      have hst := bst_step (f := fun x => (f x).length) hs hl hc
      rw [mostG_step hs hl hc]
      split
      · rename_i h1
        rw [i1]
        omega
      · rename_i h1
        rw [List.length_append, List.length_map, i2]
        omega
    · rw [mostG_end (by omega), bst_end (by omega)]; rfl
end Go.Proofs.Ytdgeocjchnandaa.Ab.T01
namespace Go.Proofs.Ytdgeocjchnandaa.Ab.T01
open Go Go.RowKit
set_option linter.unusedSimpArgs false
set_option linter.unusedVariables false
theorem grd_length {g : Int → Bool} {st : Nat} (hs : 1 ≤ st) : ∀ (r y : Nat), 301 - y ≤ r → (grd g st y).length = mny g st y
  | 0, y, h => by rw [grd_end (by omega), mny_end (by omega)]; rfl
  | r + 1, y, h => by
    by_cases hy : y ≤ 300
    · rw [grd_step hs hy]
      by_cases hg : g y = true
      · rw [if_pos hg, mny_fine hs hy hg, List.length_cons, grd_length hs r (y + st) (by omega)]
        omega
      · rw [if_neg hg, mny_step hs hy, if_neg hg, grd_length hs r (y + 1) (by omega)]
    · rw [grd_end (by omega), mny_end (by omega)]; rfl
end Go.Proofs.Ytdgeocjchnandaa.Ab.T01
