/- The contract of Fits. -/
import Derived.Test.YtdgeocjchnandaaZN1
import Derived.Test.YtdgeocjchnandaaZF1
namespace Go.Proofs.Ytdgeocjchnandaa.Ab.T01
open Go Go.RowKit
set_option linter.unusedSimpArgs false
set_option linter.unusedVariables false
set_option maxRecDepth 100000
/-- The best view of an opened blade. -/
def bestB (b : Bl) (l : List Int) : Vw := bestV (newLow b) (newTop b) b.cracks l
theorem best_ok {b : Bl} (h : newErr b = 0) (l : List Int) : (bestB b l).Ok := by
  obtain ⟨_, o1, o2, l1, l2, g1, g2, g3, g4⟩ := new_ok h
  refine ⟨fun n hn => ?_, fun n hn => ?_, fun s hs => ?_, by simp [bestB, bestV, l1, l2], by simp [bestB, bestV, l1]; omega, by simp [bestB, bestV, bestSpoils]; omega⟩
  · obtain ⟨s, hs, rfl⟩ := List.mem_map.1 hn
    have := o1 s hs
    omega
  · obtain ⟨s, hs, rfl⟩ := List.mem_map.1 hn
    have := o2 s hs
    omega
  · obtain ⟨i, hi, rfl⟩ := List.mem_map.1 hs
    have := g4 _ (nth_mem (List.mem_range.1 hi))
    simp only [isCrack, isEdges, isHeight, isSpan, Bool.and_eq_true, decide_eq_true_eq] at this
    have h2 := betw2 this.2.1.2.1
    exact h2.1.2
theorem crack_cols {b : Bl} (h : newErr b = 0) : ∀ c ∈ b.cracks, 0 ≤ c.col.1 ∧ c.col.1 ≤ c.col.2 ∧ c.col.2 ≤ 1000 := fun c hc => by
  obtain ⟨_, o1, o2, l1, l2, g1, g2, g3, g4⟩ := new_ok h
  have := g4 c hc
  simp only [isCrack, isSpan, Bool.and_eq_true, decide_eq_true_eq] at this
  have h2 := betw2 this.1.1.1
  omega
set_option pp.maxSteps 1000000
set_option pp.deepTerms true
end Go.Proofs.Ytdgeocjchnandaa.Ab.T01
