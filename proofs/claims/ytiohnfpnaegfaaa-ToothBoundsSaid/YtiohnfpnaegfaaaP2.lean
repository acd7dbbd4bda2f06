/- The bound by the reference is the program's: plain. -/
import Derived.Test.YtiohnfpnaegfaaaR10
namespace Go.Proofs.Ytiohnfpnaegfaaa.Ab.T01
open Go Go.RowKit
set_option linter.unusedSimpArgs false
set_option linter.unusedVariables false
/-- The sticks of the columns before i that are in the class r. -/
def clsS (f : Nat → Nat) (n long r : Nat) : Nat → Int
  | 0 => 0
  | i + 1 => clsS f n long r i + (if i % long = r ∧ i < n then (f i : Int) else 0)
theorem clsS_skip {f : Nat → Nat} {n long r : Nat} : ∀ (d i : Nat), (∀ j, i ≤ j → j < i + d → ¬ (j % long = r ∧ j < n)) → clsS f n long r (i + d) = clsS f n long r i
  | 0, _, _ => rfl
  | d + 1, i, h => by
    rw [← Nat.add_assoc, clsS, if_neg (h (i + d) (by omega) (by omega)), Int.add_zero]
    exact clsS_skip d i fun j h1 h2 => h j h1 (by omega)
theorem clsS_end {f : Nat → Nat} {n long r x : Nat} (h : n ≤ x) : clsS f n long r x = clsS f n long r n := by
  have := clsS_skip (f := f) (n := n) (long := long) (r := r) (x - n) n (fun j h1 _ h2 => by omega)
  rw [show n + (x - n) = x by omega] at this
  exact this
theorem clsS_first {f : Nat → Nat} {n long r : Nat} (hr : r < long) : clsS f n long r r = 0 := by
  have := clsS_skip (f := f) (n := n) (long := long) (r := r) r 0 (fun j h1 h2 h3 => by
    rw [Nat.mod_eq_of_lt (by omega)] at h3
    omega)
  rw [Nat.zero_add] at this
  exact this
theorem clsS_step {f : Nat → Nat} {n long r x : Nat} (hl : 1 ≤ long) (hx : x % long = r) (hn : x < n) : clsS f n long r (x + long) = clsS f n long r x + f x := by
  have := clsS_skip (f := f) (n := n) (long := long) (r := r) (long - 1) (x + 1) (fun j h1 h2 h3 => by
    have e : j % long = ((x % long) + (j - x)) % long := by
      rw [Nat.mod_add_mod]
      congr 1
      omega
    have hlt : x % long < long := Nat.mod_lt _ (by omega)
    rw [e, hx] at h3
    rw [hx] at hlt
    by_cases hc : r + (j - x) < long
    · rw [Nat.mod_eq_of_lt hc] at h3; omega
    · rw [Nat.mod_eq_sub_mod (by omega), Nat.mod_eq_of_lt (by omega)] at h3; omega)
  rw [show x + 1 + (long - 1) = x + long by omega] at this
  rw [this, clsS, if_pos ⟨hx, hn⟩]
theorem clsS_nonneg {f : Nat → Nat} {n long r : Nat} : ∀ i, 0 ≤ clsS f n long r i
  | 0 => Int.le_refl _
  | i + 1 => by
    have := clsS_nonneg (f := f) (n := n) (long := long) (r := r) i
    rw [clsS]
    split <;> omega
theorem sumsTo_cls {v : Vw} {s : Sw} (hl : 1 ≤ s.long.toNat) (n r : Nat) (hr : r < s.long.toNat) : ∀ i, i ≤ n → nth (sumsTo v s i) r = clsS (fun x => (blockI v (oneS s) x).length) n s.long.toNat r i
  | 0, _ => by
    rw [sumsTo, clsS]
    unfold nth
    rw [List.getD_eq_getElem?_getD, List.getElem?_replicate, if_pos hr]
    rfl
  | i + 1, hi => by
    have elv : ∀ (i : Nat), (sumsTo v s i).length = s.long.toNat := fun i => by
      induction i with
      | zero => rw [sumsTo, List.length_replicate]
      | succ i ih => rw [sumsTo, List.length_set, ih]
    have ih := sumsTo_cls (v := v) hl n r hr i (by omega)
    rw [sumsTo, nth_set _ _ _ _ (by rw [elv]; exact hr), clsS]
    by_cases e : i % s.long.toNat = r
    · rw [if_pos e, if_pos ⟨e, by omega⟩, e, ih]
    · rw [if_neg e, if_neg (fun h => e h.1), ih, Int.add_zero]
/-- The least of the first sums, and its class, as the reference finds it. -/
def leastR (g : Nat → Int) : Nat → Int × Int
  | 0 => (0, -1)
  | r + 1 => if (leastR g r).2 < 0 ∨ g r < (leastR g r).1 then (g r, (r : Int)) else leastR g r
theorem leastR_spec (g : Nat → Int) : ∀ r, 0 < r → ∃ k : Nat, k < r ∧ leastR g r = (g k, (k : Int)) ∧ (∀ j, j < r → g k ≤ g j) ∧ ∀ j, j < k → g k < g j
  | 0, h => by omega
  | 1, _ => by
    refine ⟨0, by omega, ?_, fun j hj => ?_, fun j hj => by omega⟩
    · rw [leastR, leastR, if_pos (.inl (by simp))]
    · rw [show j = 0 by omega]; exact Int.le_refl _
  | r + 2, _ => by
    obtain ⟨k, h1, h2, h3, h4⟩ := leastR_spec g (r + 1) (by omega)
    rw [leastR, h2]
    by_cases hc : g (r + 1) < g k
    · rw [if_pos (.inr hc)]
      refine ⟨r + 1, by omega, rfl, fun j hj => ?_, fun j hj => ?_⟩
      · by_cases e : j = r + 1
        · subst e; exact Int.le_refl _
        · have := h3 j (by omega); omega
      · have := h3 j (by omega); omega
    · rw [if_neg (by simp only [not_or]; exact ⟨by omega, hc⟩)]
      refine ⟨k, by omega, rfl, fun j hj => ?_, h4⟩
      by_cases e : j = r + 1
      · subst e; omega
      · exact h3 j (by omega)
theorem minI_eq {l : List Int} {k : Nat} (hk : k < l.length) (h : ∀ j, j < l.length → nth l k ≤ nth l j) : minI l = nth l k := by
  have h1 : minI l ≤ nth l k := by
    have := (le_minI (l := l) (List.ne_nil_of_length_pos (by omega)) (y := minI l)).1 (Int.le_refl _) _ (nth_mem hk)
    exact this
  have h2 : nth l k ≤ minI l := (le_minI (List.ne_nil_of_length_pos (by omega))).2 fun n hn => by
    obtain ⟨j, hj, rfl⟩ := List.mem_iff_getElem.1 hn
    have e : nth l j = l[j] := by have := nth_eq hj; rw [List.getElem?_eq_getElem hj] at this; exact (Option.some.inj this).symm
    rw [← e]
    exact h j hj
  omega
theorem least_law {l : List Int} {g : Nat → Int} (hl : 0 < l.length) (hg : ∀ r, r < l.length → nth l r = g r) : leastR g l.length = (minI l, idxI (fun m => minI l == m) l) := by
  obtain ⟨k, h1, h2, h3, h4⟩ := leastR_spec g l.length hl
  have hm : minI l = g k := by
    rw [← hg k h1]
    exact minI_eq h1 fun j hj => by rw [hg k h1, hg j hj]; exact h3 j hj
  rw [h2, hm]
  refine Prod.ext rfl ?_
  show (k : Int) = _
  rw [idxI_some (p := fun m => g k == m) h1 (by rw [hg k h1]; simp) (fun j hj => by
    have := h4 j hj
    rw [hg j (by omega)]
    simp
    omega)]
end Go.Proofs.Ytiohnfpnaegfaaa.Ab.T01
