/- The fewest numbers: what Change chooses, plainly. -/
import Derived.Test.YtpnmbpbcgifkeaaZGE
import Derived.Test.YtpnmbpbcgifkeaaZH3
import Derived.Test.YtpnmbpbcgifkeaaZK7
import Derived.Test.YtpnmbpbcgifkeaaZK1
namespace Go.Proofs.Ytpnmbpbcgifkeaa.Ab.T12
open Go Go.RowKit
set_option linter.unusedVariables false
set_option linter.unusedSimpArgs false
set_option maxRecDepth 100000
/-- A bill without the numbers at these places. -/
def rubL (b : Bl) : List Nat → Bl
  | [] => b
  | i :: l => rubL (setN b i (-1)) l
theorem rubL_len : ∀ (l : List Nat) (b : Bl), (rubL b l).lines.length = b.lines.length
  | [], b => rfl
  | i :: l, b => by rw [rubL, rubL_len l, setN_len]
/-- Ascending places, from one on and below another. -/
def Inc : Nat → Nat → List Nat → Prop
  | _, _, [] => True
  | o, N, i :: l => o ≤ i ∧ i < N ∧ Inc (i + 1) N l
theorem Inc.mono : ∀ {l : List Nat} {o o' N : Nat}, Inc o N l → o' ≤ o → Inc o' N l
  | [], _, _, _, _, _ => trivial
  | i :: l, o, o', N, ⟨h1, h2, h3⟩, h => ⟨by omega, h2, h3⟩
theorem Inc.mem : ∀ {l : List Nat} {o N : Nat}, Inc o N l → ∀ i ∈ l, o ≤ i ∧ i < N
  | i :: l, o, N, ⟨h1, h2, h3⟩, j, hj => by
    rcases List.mem_cons.1 hj with rfl | hj
    · exact ⟨h1, h2⟩
    · have := h3.mem j hj
      omega
theorem inc_app : ∀ {l : List Nat} {o N : Nat}, Inc o N l → ∀ {i : Nat}, N ≤ i → o ≤ i → Inc o (i + 1) (l ++ [i])
  | [], o, N, _, i, h, ho => ⟨ho, by omega, trivial⟩
  | j :: l, o, N, ⟨h1, h2, h3⟩, i, h, ho => ⟨h1, by omega, inc_app h3 h (by omega)⟩
theorem Inc.wide : ∀ {l : List Nat} {o N M : Nat}, Inc o N l → N ≤ M → Inc o M l
  | [], _, _, _, _, _ => trivial
  | i :: l, o, N, M, ⟨h1, h2, h3⟩, h => ⟨h1, by omega, h3.wide h⟩
theorem filter_inc : ∀ {N : Nat} {l : List Nat}, Inc 0 N l → (List.range N).filter (fun j => decide (j ∈ l)) = l := by
  have gen : ∀ (d o : Nat) (l : List Nat), Inc o (o + d) l → (List.range' o d).filter (fun j => decide (j ∈ l)) = l := by
    intro d
    induction d with
    | zero =>
      intro o l h
      cases l with
      | nil => rfl
      | cons i l => have := h.2.1; have := h.1; omega
    | succ d ih =>
      intro o l h
      rw [List.range'_succ]
      cases l with
      | nil => simp
      | cons i l =>
        obtain ⟨h1, h2, h3⟩ := h
        by_cases c : i = o
        · subst c
          have e := ih (i + 1) l (by rw [show i + 1 + d = i + (d + 1) by omega]; exact h3)
          rw [List.filter_cons_of_pos (by simp)]
          congr 1
          refine (List.filter_congr fun j hj => ?_).trans e
          have := List.mem_range'_1.1 hj
          have hji : j ≠ i := by omega
          simp [hji]
        · have hno : o ∉ i :: l := fun hm => by
            rcases List.mem_cons.1 hm with h | h
            · exact c h.symm
            · have := (h3.mem o h).1; omega
          rw [List.filter_cons_of_neg (by simpa using hno)]
          exact ih (o + 1) (i :: l) ⟨by omega, by omega, by rw [show o + 1 + d = o + (d + 1) by omega]; exact h3⟩
  intro N l h
  rw [List.range_eq_range']
  exact gen N 0 l (by rw [Nat.zero_add]; exact h)
end Go.Proofs.Ytpnmbpbcgifkeaa.Ab.T12
