/- Slips of a bill with one wrong number: plain. -/
import Derived.Test.YtpnmbpbcgifkeaaZN1
namespace Go.Proofs.Ytpnmbpbcgifkeaa.Ab.T12
open Go Go.RowKit
set_option linter.unusedVariables false
set_option linter.unusedSimpArgs false
set_option maxRecDepth 100000
theorem way_right {b w : Bl} (h : w ∈ allW b) : faultL w = [] := by
  obtain ⟨h1, h2, h3⟩ := mem_allW.1 h
  rw [right_iff]
  refine ⟨fun j hj => ?_, h2.symm⟩
  obtain ⟨m, e, _, _, he, _⟩ := mem_allL.1 (h1.2 j (by rw [← h1.1]; exact hj))
  rw [he]
  simp [wrongL, cand]
theorem right_way {b w : Bl} (hb : AOk w) (hw : faultL w = []) (hl : w.lines.length = b.lines.length) (h : ∀ j, j ≤ b.lines.length * 3 → numAt b j = -1 ∨ numAt b j = numAt w j) : w ∈ allW b := by
  obtain ⟨h1, h2⟩ := right_iff.1 hw
  refine mem_allW.2 ⟨⟨hl, fun i hi => ?_⟩, h2.symm, ?_⟩
  · have g : ∀ f, f < 3 → fldL (nth b.lines i) f = -1 ∨ fldL (nth b.lines i) f = fldL (nth w.lines i) f := fun f hf => by
      rw [line_at hi hf, line_at (by omega) hf]
      exact h _ (by omega)
    have b0 : ∀ f, f < 3 → 0 ≤ fldL (nth w.lines i) f ∧ fldL (nth w.lines i) f ≤ (if f = 2 then 2500 else 50) := fun f hf => by
      rw [line_at (by omega) hf]
      have := hb.num (i * 3 + f) (by omega)
      rw [mostAt_lt (by omega), show (i * 3 + f) % 3 = f by omega] at this
      refine ⟨this.1, ?_⟩
      have h3 := this.2
      split at h3
      · rename_i hc; rw [if_pos hc]; exact h3
      · rename_i hc; rw [if_neg hc]; exact h3
    have c0 := b0 0 (by omega)
    have c1 := b0 1 (by omega)
    have g0 := g 0 (by omega)
    have g1 := g 1 (by omega)
    have g2 := g 2 (by omega)
    have hw2 := wrong_iff.1 (h1 i (by omega))
    simp [fldL] at c0 c1 g0 g1 g2
    refine mem_allL.2 ⟨(nth w.lines i).many.toNat, (nth w.lines i).each.toNat, by omega, by omega, ?_, ?_⟩
    · have e1 : (((nth w.lines i).many.toNat : Nat) : Int) = (nth w.lines i).many := by omega
      have e2 : (((nth w.lines i).each.toNat : Nat) : Int) = (nth w.lines i).each := by omega
      unfold cand
      rw [e1, e2, hw2]
    · unfold fitL fitsB
      simp only [Bool.and_eq_true, Bool.or_eq_true, beq_iff_eq]
      exact ⟨g0, g1, g2⟩
  · have h3 := h (b.lines.length * 3) (Nat.le_refl _)
    rw [numAt_end] at h3
    have h4 := numAt_end w
    rw [hl] at h4
    rw [h4] at h3
    exact h3
end Go.Proofs.Ytpnmbpbcgifkeaa.Ab.T12
