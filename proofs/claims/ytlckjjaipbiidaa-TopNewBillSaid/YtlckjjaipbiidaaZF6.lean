/- All numbers of fans up to others, one after another: digits. -/
import Derived.Test.YtlckjjaipbiidaaZF5
namespace Go.Proofs.Ytlckjjaipbiidaa.Ab.T11
open Go Go.RowKit
set_option linter.unusedVariables false
set_option linter.unusedSimpArgs false
set_option maxRecDepth 100000
def prd (A : Nat → Nat) : Nat → Nat
  | 0 => 1
  | i + 1 => prd A i * (A i + 1)
def dig (A : Nat → Nat) (q i : Nat) : Nat := q / prd A i % (A i + 1)
theorem prd_pos (A : Nat → Nat) : ∀ i, 0 < prd A i
  | 0 => by simp [prd]
  | i + 1 => Nat.mul_pos (prd_pos A i) (by omega)
theorem dig_le (A : Nat → Nat) (q i : Nat) : dig A q i ≤ A i := by
  have := Nat.mod_lt (q / prd A i) (show 0 < A i + 1 by omega)
  unfold dig; omega
theorem div_prd (A : Nat → Nat) (q i : Nat) : q / prd A (i + 1) = q / prd A i / (A i + 1) := by
  rw [prd, Nat.div_div_eq_div_mul]
/-- The digits below k are greatest: one more is a multiple. -/
theorem top_mod {A : Nat → Nat} {q : Nat} : ∀ {k : Nat}, (∀ j, j < k → dig A q j = A j) → (q + 1) % prd A k = 0 ∧ (q + 1) / prd A k = q / prd A k + 1
  | 0, _ => by simp [prd, Nat.mod_one]
  | k + 1, h => by
    obtain ⟨h1, h2⟩ := top_mod (k := k) fun j hj => h j (by omega)
    have h3 := h k (by omega)
    unfold dig at h3
    have h4 : (q / prd A k + 1) % (A k + 1) = 0 := by
      have := Nat.div_add_mod (q / prd A k) (A k + 1)
      rw [h3] at this
      have e : q / prd A k + 1 = (A k + 1) * (q / prd A k / (A k + 1) + 1) := by rw [Nat.mul_add]; omega
      rw [e]
      exact Nat.mul_mod_right _ _
    have h5 : (q / prd A k + 1) / (A k + 1) = q / prd A k / (A k + 1) + 1 := by
      have := Nat.div_add_mod (q / prd A k) (A k + 1)
      rw [h3] at this
      have e : q / prd A k + 1 = (A k + 1) * (q / prd A k / (A k + 1) + 1) := by rw [Nat.mul_add]; omega
      rw [e]
      exact Nat.mul_div_cancel_left _ (by omega)
    refine ⟨?_, by rw [div_prd, div_prd, h2, h5]⟩
    rw [prd, Nat.mod_mul, h1, h2, h4]
    simp
theorem mod_lower {A : Nat → Nat} {q : Nat} : ∀ {k i : Nat}, i ≤ k → q % prd A k = 0 → q % prd A i = 0 := fun {k i} hi h => by
  have hd : prd A i ∣ prd A k := by
    induction k with
    | zero => obtain rfl : i = 0 := by omega
              exact Nat.dvd_refl _
    | succ k ih =>
      by_cases e : i = k + 1
      · subst e; exact Nat.dvd_refl _
      · refine Nat.dvd_trans (ih (by omega) ?_) ⟨_, rfl⟩
        have : prd A k ∣ prd A (k + 1) := ⟨_, rfl⟩
        exact Nat.eq_zero_of_dvd_of_lt (Nat.dvd_trans (Nat.dvd_refl _) ((Nat.dvd_mod_iff (Nat.dvd_refl _)).2 (Nat.dvd_trans this (Nat.dvd_of_mod_eq_zero h)))) (Nat.mod_lt _ (prd_pos A k))
  exact Nat.mod_eq_zero_of_dvd (Nat.dvd_trans hd (Nat.dvd_of_mod_eq_zero h))
/-- One more: the digits. -/
theorem dig_next {A : Nat → Nat} {q k : Nat} (h : ∀ j, j < k → dig A q j = A j) (hk : dig A q k ≠ A k) (i : Nat) : dig A (q + 1) i = if i < k then 0 else if i = k then dig A q k + 1 else dig A q i := by
  obtain ⟨h1, h2⟩ := top_mod h
  have hlt : q / prd A k % (A k + 1) < A k := by
    have := dig_le A q k
    unfold dig at this hk
    omega
  by_cases c : i < k
  · rw [if_pos c]
    unfold dig
    have h3 := mod_lower (i := i + 1) (by omega) h1
    rw [prd, Nat.mod_mul] at h3
    have : 0 ≤ prd A i * ((q + 1) / prd A i % (A i + 1)) := Nat.zero_le _
    have h4 : prd A i * ((q + 1) / prd A i % (A i + 1)) = 0 := by omega
    rcases Nat.mul_eq_zero.1 h4 with h5 | h5
    · have := prd_pos A i; omega
    · exact h5
  · rw [if_neg c]
    have e1 : (q / prd A k + 1) % (A k + 1) = q / prd A k % (A k + 1) + 1 := by
      have := Nat.div_add_mod (q / prd A k) (A k + 1)
      have e : q / prd A k + 1 = (A k + 1) * (q / prd A k / (A k + 1)) + (q / prd A k % (A k + 1) + 1) := by omega
      rw [e, Nat.mul_add_mod]
      exact Nat.mod_eq_of_lt (by omega)
    have e2 : (q / prd A k + 1) / (A k + 1) = q / prd A k / (A k + 1) := by
      have := Nat.div_add_mod (q / prd A k) (A k + 1)
      have e : q / prd A k + 1 = (A k + 1) * (q / prd A k / (A k + 1)) + (q / prd A k % (A k + 1) + 1) := by omega
      rw [e, Nat.mul_add_div (by omega), Nat.div_eq_of_lt (show q / prd A k % (A k + 1) + 1 < A k + 1 by omega)]
      have e3 : (A k + 1) * (q / prd A k / (A k + 1)) + (q / prd A k % (A k + 1) + 1) = q / prd A k + 1 := by omega
      omega
    by_cases e : i = k
    · subst e
      rw [if_pos rfl]
      unfold dig
      rw [h2, e1]
    · rw [if_neg e]
      have key : ∀ d, (q + 1) / prd A (k + 1 + d) = q / prd A (k + 1 + d) := fun d => by
        induction d with
        | zero => rw [Nat.add_zero, div_prd, div_prd, h2, e2]
        | succ d ih => rw [show k + 1 + (d + 1) = (k + 1 + d) + 1 by omega, div_prd, div_prd, ih]
      unfold dig
      obtain ⟨d, rfl⟩ : ∃ d, i = k + 1 + d := ⟨i - (k + 1), by omega⟩
      rw [key d]
theorem dig_last {A : Nat → Nat} {q n : Nat} (h : ∀ j, j < n → dig A q j = A j) (hq : q < prd A n) : q + 1 = prd A n := by
  obtain ⟨h1, h2⟩ := top_mod h
  rw [Nat.div_eq_of_lt hq] at h2
  have := Nat.div_add_mod (q + 1) (prd A n)
  rw [h1, h2] at this
  omega
theorem dig_zero (A : Nat → Nat) (i : Nat) : dig A 0 i = 0 := by unfold dig; rw [Nat.zero_div, Nat.zero_mod]
/-- All numbers are among the digits. -/
theorem dig_all (A : Nat → Nat) (C : Nat → Nat) : ∀ n, (∀ i, i < n → C i ≤ A i) → ∃ q, q < prd A n ∧ ∀ i, i < n → dig A q i = C i
  | 0, _ => ⟨0, by simp [prd], fun i hi => by omega⟩
  | n + 1, h => by
    obtain ⟨q, hq, hd⟩ := dig_all A C n fun i hi => h i (by omega)
    have hn := h n (by omega)
    have hp := prd_pos A n
    refine ⟨q + prd A n * C n, ?_, fun i hi => ?_⟩
    · have : prd A n * C n + prd A n ≤ prd A n * (A n + 1) := by
        rw [← Nat.mul_succ]; exact Nat.mul_le_mul_left _ (by omega)
      rw [prd]; omega
    · by_cases e : i = n
      · subst e
        unfold dig
        rw [Nat.add_mul_div_left _ _ hp, Nat.div_eq_of_lt hq, Nat.zero_add]
        exact Nat.mod_eq_of_lt (by omega)
      · rw [← hd i (by omega)]
        unfold dig
        -- prd n = prd (i+1) * r
        have hdv : prd A (i + 1) ∣ prd A n := by
          have key : ∀ d, prd A (i + 1) ∣ prd A (i + 1 + d) := fun d => by
            induction d with
            | zero => exact Nat.dvd_refl _
            | succ d ih => exact Nat.dvd_trans ih ⟨_, rfl⟩
          have := key (n - (i + 1))
          rwa [show i + 1 + (n - (i + 1)) = n by omega] at this
        obtain ⟨r, hr⟩ := hdv
        have e1 : q + prd A n * C n = q + prd A i * ((A i + 1) * (r * C n)) := by rw [hr, prd]; simp only [Nat.mul_assoc]
        rw [e1, Nat.add_mul_div_left _ _ (prd_pos A i), Nat.add_mul_mod_self_left]
def cI (A : Nat → Nat) : Nat → Int := fun i => (A i : Int)
def dgI (A : Nat → Nat) (q : Nat) : Nat → Int := fun i => (dig A q i : Int)
end Go.Proofs.Ytlckjjaipbiidaa.Ab.T11
