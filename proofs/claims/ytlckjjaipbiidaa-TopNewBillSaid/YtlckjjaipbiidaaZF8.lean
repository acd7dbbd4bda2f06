/- The least loss, with what is known: as a function. -/
import Derived.Test.YtlckjjaipbiidaaZF7
namespace Go.Proofs.Ytlckjjaipbiidaa.Ab.T11
open Go Go.RowKit
set_option linter.unusedVariables false
set_option linter.unusedSimpArgs false
set_option maxRecDepth 100000
abbrev Memo := List Int → Option Int
def keyL (from_ : Nat) (A : Nat → Nat) : List Int := [(from_ : Int), cI A 0, cI A 1, cI A 2, cI A 3]
def noneI : Int := 1099511627776
def zerB (A : Nat → Nat) : Bool := decide (A 0 = 0 ∧ A 1 = 0 ∧ A 2 = 0 ∧ A 3 = 0)
def lessN (A : Nat → Nat) (q : Nat) : Nat → Nat := fun i => A i - dig A q i
def stepM (rc : (Nat → Nat) → Memo → Int × Memo) (T : Nat → Int) (h : Int) (A : Nat → Nat) (s : Int × Memo) (q : Nat) : Int × Memo :=
  if fitsB T (dgI A q) h then (min s.1 (rc (lessN A q) s.2).1, (rc (lessN A q) s.2).2) else s
def accM (rc : (Nat → Nat) → Memo → Int × Memo) (T : Nat → Int) (h : Int) (A : Nat → Nat) (f : Memo) : Nat → Int × Memo
  | 0 => (noneI, f)
  | q + 1 => stepM rc T h A (accM rc T h A f q) q
def leastM (T : Nat → Int) (hs : List Int) : Nat → (Nat → Nat) → Memo → Int × Memo
  | 0, A, f => (if zerB A then 0 else noneI, f)
  | r + 1, A, f => match f (keyL (hs.length - (r + 1)) A) with
    | some y => (y, f)
    | none => ((accM (leastM T hs r) T (nth hs (hs.length - (r + 1))) A f (prd A 4)).1, msetK (accM (leastM T hs r) T (nth hs (hs.length - (r + 1))) A f (prd A 4)).2 (keyL (hs.length - (r + 1)) A) (accM (leastM T hs r) T (nth hs (hs.length - (r + 1))) A f (prd A 4)).1)
theorem leastM_some {T : Nat → Int} {hs : List Int} {r : Nat} {A : Nat → Nat} {f : Memo} {y : Int} (h : f (keyL (hs.length - (r + 1)) A) = some y) : leastM T hs (r + 1) A f = (y, f) := by simp only [leastM, h]
theorem leastM_none {T : Nat → Int} {hs : List Int} {r : Nat} {A : Nat → Nat} {f : Memo} (h : f (keyL (hs.length - (r + 1)) A) = none) : leastM T hs (r + 1) A f = ((accM (leastM T hs r) T (nth hs (hs.length - (r + 1))) A f (prd A 4)).1, msetK (accM (leastM T hs r) T (nth hs (hs.length - (r + 1))) A f (prd A 4)).2 (keyL (hs.length - (r + 1)) A) (accM (leastM T hs r) T (nth hs (hs.length - (r + 1))) A f (prd A 4)).1) := by simp only [leastM, h]
/-- What is known is a loss. -/
def MB (f : Memo) : Prop := ∀ l y, f l = some y → 0 ≤ y ∧ y ≤ noneI
theorem acc_bd {rc : (Nat → Nat) → Memo → Int × Memo} {T : Nat → Int} {h : Int} {A : Nat → Nat} (hrc : ∀ A f, MB f → (0 ≤ (rc A f).1 ∧ (rc A f).1 ≤ noneI) ∧ MB (rc A f).2) {f : Memo} (hf : MB f) : ∀ q, (0 ≤ (accM rc T h A f q).1 ∧ (accM rc T h A f q).1 ≤ noneI) ∧ MB (accM rc T h A f q).2
  | 0 => ⟨⟨by simp [accM, noneI], by simp [accM]⟩, hf⟩
  | q + 1 => by
    obtain ⟨h1, h2⟩ := acc_bd hrc hf q
    obtain ⟨h3, h4⟩ := hrc (lessN A q) _ h2
    simp only [accM, stepM]
    split
    · exact ⟨⟨by simp only; omega, by simp only; omega⟩, h4⟩
    · exact ⟨h1, h2⟩
theorem least_bd (T : Nat → Int) (hs : List Int) : ∀ (r : Nat) (A : Nat → Nat) (f : Memo), MB f → (0 ≤ (leastM T hs r A f).1 ∧ (leastM T hs r A f).1 ≤ noneI) ∧ MB (leastM T hs r A f).2
  | 0, A, f, hf => by
    simp only [leastM]
    refine ⟨?_, hf⟩
    split <;> simp [noneI]
  | r + 1, A, f, hf => by
    cases hm : f (keyL (hs.length - (r + 1)) A) with
    | some y => rw [leastM_some hm]; exact ⟨hf _ _ hm, hf⟩
    | none =>
      rw [leastM_none hm]
      obtain ⟨h1, h2⟩ := acc_bd (least_bd T hs r) (T := T) (h := nth hs (hs.length - (r + 1))) (A := A) hf (prd A 4)
      refine ⟨h1, fun l y hy => ?_⟩
      simp only [msetK] at hy
      split at hy
      · cases hy; exact h1
      · exact h2 l y hy
theorem lessN_cI (A : Nat → Nat) (q : Nat) : (fun i => cI A i - dgI A q i) = cI (lessN A q) := by
  funext i
  have := dig_le A q i
  simp only [cI, dgI, lessN]
  omega
theorem fb_cI {A : Nat → Nat} (h : ∀ i, A i ≤ 4) : FB (cI A) := fun i => by have := h i; simp only [cI]; omega
theorem fb_dgI {A : Nat → Nat} (h : ∀ i, A i ≤ 4) (q : Nat) : FB (dgI A q) := fun i => by have := h i; have := dig_le A q i; simp only [dgI]; omega
theorem key_in {A : Nat → Nat} (h : ∀ i, A i ≤ 4) {n : Nat} (hn : n < 1000) : InK 5 (keyL n A) := by
  have h0 := h 0; have h1 := h 1; have h2 := h 2; have h3 := h 3
  refine ⟨rfl, fun x hx => ?_⟩
  simp only [keyL, cI, List.mem_cons, List.not_mem_nil, or_false] at hx
  omega
theorem zer_all (A : Nat → Nat) : (([Value.int .i64 (cI A 0), .int .i64 (cI A 1), .int .i64 (cI A 2), .int .i64 (cI A 3)].zip [Value.int .i64 0, .int .i64 0, .int .i64 0, .int .i64 0]).all fun q => cellEq q.1 q.2) = zerB A := by
  simp only [List.zip_cons_cons, List.zip_nil_right, List.all_cons, List.all_nil, cellEq, cI, zerB, Bool.and_true]
  rw [Bool.eq_iff_iff]
  simp
end Go.Proofs.Ytlckjjaipbiidaa.Ab.T11
