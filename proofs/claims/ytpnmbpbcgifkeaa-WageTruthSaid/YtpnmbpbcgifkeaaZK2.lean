/- The document's bills: errors, numbers that cannot be read, lines that are wrong. -/
import Derived.Test.YtpnmbpbcgifkeaaZK1
namespace Go.Proofs.Ytpnmbpbcgifkeaa.Ab.T12
open Go Go.RowKit
set_option linter.unusedVariables false
set_option linter.unusedSimpArgs false
set_option maxRecDepth 100000
def okN (b : Bl) (i : Nat) : Bool := betw (-1) (mostAt b.lines.length i) [numAt b i]
theorem okN_iff {b : Bl} {i : Nat} : okN b i = true ↔ -1 ≤ numAt b i ∧ numAt b i ≤ mostAt b.lines.length i := by
  unfold okN
  rw [betw_one]
  simp
theorem okN_all {b : Bl} (h : ∀ i, i ≤ b.lines.length * 3 → okN b i = true) : b.lines.any badLn = false ∧ betw (-1) 12500 [b.total] = true := by
  constructor
  · rw [List.any_eq_false]
    intro l hl
    obtain ⟨k, hk, rfl⟩ := List.mem_iff_getElem.1 hl
    have e : nth b.lines k = b.lines[k] := by
      have := nth_eq hk
      rw [List.getElem?_eq_getElem hk] at this
      exact (Option.some.inj this).symm
    have g : ∀ f, f < 3 → -1 ≤ fldL (b.lines[k]) f ∧ fldL (b.lines[k]) f ≤ (if f = 2 then 2500 else 50) := fun f hf => by
      have h1 := okN_iff.1 (h (k * 3 + f) (by omega))
      rw [numAt_lt (by omega), mostAt_lt (by omega), show (k * 3 + f) / 3 = k by omega, show (k * 3 + f) % 3 = f by omega, e] at h1
      refine ⟨h1.1, ?_⟩
      have h2 := h1.2
      split at h2
      · rename_i hf2; rw [if_pos hf2]; exact h2
      · rename_i hf2; rw [if_neg hf2]; exact h2
    have g0 := g 0 (by omega)
    have g1 := g 1 (by omega)
    have g2 := g 2 (by omega)
    simp [fldL] at g0 g1 g2
    unfold badLn
    simp [betw]
    omega
  · have h1 := okN_iff.1 (h (b.lines.length * 3) (Nat.le_refl _))
    rw [numAt_end, mostAt_end] at h1
    simp [betw]
    omega
end Go.Proofs.Ytpnmbpbcgifkeaa.Ab.T12
