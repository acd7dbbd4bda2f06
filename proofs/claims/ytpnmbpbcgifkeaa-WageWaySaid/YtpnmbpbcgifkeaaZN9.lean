/- The loop over the slips: plain. -/
import Derived.Test.YtpnmbpbcgifkeaaZN5
namespace Go.Proofs.Ytpnmbpbcgifkeaa.Ab.T12
open Go Go.RowKit
set_option linter.unusedVariables false
set_option linter.unusedSimpArgs false
set_option maxRecDepth 100000
def lastA (A : List (Nat × Nat)) : Nat → Int
  | 0 => -1
  | k + 1 => ((nth A k).1 : Int)
def fndA (A : List (Nat × Nat)) (i : Nat) (w : Int) : Nat → Bool
  | 0 => false
  | k + 1 => fndA A i w k || ((nth A k).1 == i && ((nth A k).2 : Int) == w)
theorem fndA_mono {A : List (Nat × Nat)} {i : Nat} {w : Int} {k : Nat} (hk : (nth A k).1 = i ∧ ((nth A k).2 : Int) = w) : ∀ n, k < n → fndA A i w n = true
  | 0, h => by omega
  | n + 1, h => by
    simp only [fndA, Bool.or_eq_true, Bool.and_eq_true, beq_iff_eq]
    by_cases c : k = n
    · right; rw [← c]; exact hk
    · left; exact fndA_mono hk n (by omega)
theorem fndA_all {A : List (Nat × Nat)} {i : Nat} {w : Int} (hw : 0 ≤ w) (h : (i, w.toNat) ∈ A) : fndA A i w A.length = true := by
  obtain ⟨k, hk, e⟩ := List.getElem_of_mem h
  have e2 : nth A k = (i, w.toNat) := by
    have := nth_eq hk
    rw [List.getElem?_eq_getElem hk, e] at this
    exact (Option.some.inj this).symm
  exact fndA_mono (k := k) (by rw [e2]; exact ⟨rfl, by simp only; omega⟩) _ hk
theorem pw_nth {α : Type} [Inhabited α] {R : α → α → Prop} : ∀ {l : List α}, l.Pairwise R → ∀ k, k + 1 < l.length → R (nth l k) (nth l (k + 1))
  | [], _, k, h => by simp at h
  | a :: l, hp, 0, h => by
    rw [List.pairwise_cons] at hp
    exact hp.1 _ (nth_mem (l := l) (i := 0) (by simpa using h))
  | a :: l, hp, k + 1, h => by
    rw [List.pairwise_cons] at hp
    exact pw_nth hp.2 k (by simpa using h)
theorem nthm {α β : Type} [Inhabited α] [Inhabited β] {f : α → β} {l : List α} {i : Nat} (h : i < l.length) : nth (l.map f) i = f (nth l i) := by
  have := nth_eq h
  have e : (l.map f)[i]? = some (f (nth l i)) := by rw [List.getElem?_map, this]; rfl
  show (l.map f).getD i default = _
  rw [List.getD_eq_getElem?_getD, e]
  rfl
/-- The order of slips at a round. -/
theorem slA_at {b : Bl} {k : Nat} (h : k < (slA b).length) : lastA (slA b) k ≤ ((nth (slA b) k).1 : Int) ∧ (∀ j, k = j + 1 → (nth (slA b) j).1 = (nth (slA b) k).1 → (nth (slA b) j).2 < (nth (slA b) k).2) := by
  have hp := slP_pw b (b.lines.length * 3 + 1)
  cases k with
  | zero => exact ⟨by simp only [lastA]; omega, fun j hj => by omega⟩
  | succ k =>
    have := pw_nth hp k h
    refine ⟨?_, fun j hj he => ?_⟩
    · simp only [lastA]
      rcases this with h1 | h1
      · have : (nth (slA b) k).1 < (nth (slA b) (k + 1)).1 := h1; omega
      · have : (nth (slA b) k).1 = (nth (slA b) (k + 1)).1 := h1.1; omega
    · obtain rfl : j = k := by omega
      rcases this with h1 | h1
      · have : (nth (slA b) j).1 < (nth (slA b) (j + 1)).1 := h1; omega
      · exact h1.2
theorem slA_len {b : Bl} (h : b.lines.length ≤ 5) : (slA b).length ≤ 12501 * 16 := by
  have h1 := slipsT_len b (b.lines.length * 3 + 1)
  have h2 : (slipsT b (b.lines.length * 3 + 1)).length = (slA b).length := by rw [slP_map, List.length_map]; rfl
  omega
end Go.Proofs.Ytpnmbpbcgifkeaa.Ab.T12
