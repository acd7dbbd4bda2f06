/- The ways of a load are all that its bills allow: plain. -/
import Derived.Test.YtmkholodkejomaaZQ5
namespace Go.Proofs.Ytmkholodkejomaa.Ab.T08
open Go Go.RowKit
set_option linter.unusedVariables false
set_option linter.unusedSimpArgs false
set_option maxRecDepth 100000
theorem mem_ways {l : Ld} : ∀ {r : Nat} {v w : List Int}, w ∈ waysF l r v → w.length = v.length + r ∧ (∃ u, w = v ++ u) ∧ (∀ i, v.length ≤ i → i < w.length → 0 ≤ nth w i ∧ nth w i < l.bills.length) ∧ mayAll l w l.bills.length = true
  | 0, v, w, h => by
    rw [waysF] at h
    split at h
    · rename_i hm
      obtain rfl : w = v := by simpa using h
      exact ⟨rfl, ⟨[], by simp⟩, fun i h1 h2 => by omega, hm⟩
    · simp at h
  | r + 1, v, w, h => by
    rw [waysF, List.mem_flatMap] at h
    obtain ⟨c, hc, h⟩ := h
    have hc := List.mem_range.1 hc
    unfold stepW at h
    split at h
    · simp at h
    · obtain ⟨h1, ⟨u, h2⟩, h3, h4⟩ := mem_ways h
      rw [List.length_append, List.length_cons, List.length_nil] at h1
      refine ⟨by omega, ⟨[(c : Int)] ++ u, by rw [h2, List.append_assoc]⟩, fun i hi1 hi2 => ?_, h4⟩
      by_cases e : i = v.length
      · have : nth w i = (c : Int) := by
          rw [h2, e, nth_appL (by simp), show nth (v ++ [(c : Int)]) v.length = nth (v ++ [(c : Int)]) (v.length + 0) from rfl, nth_appR]
          rfl
        rw [this]
        omega
      · exact h3 i (by simp; omega) hi2
theorem mem_all {l : Ld} {w : List Int} (h : w ∈ allL l) : w.length = l.boxes.length ∧ (∀ i, i < w.length → 0 ≤ nth w i ∧ nth w i < l.bills.length) ∧ mayAll l w l.bills.length = true := by
  obtain ⟨h1, _, h3, h4⟩ := mem_ways h
  exact ⟨by simpa using h1, fun i hi => h3 i (by simp) hi, h4⟩
theorem cellN_mono {l : Ld} {K : Nat} (hl : l.Ok K) (w : List Int) (j : Nat) : ∀ {i n : Nat}, i ≤ n → n ≤ l.boxes.length → cellN l w i j ≤ cellN l w n j := by
  intro i n h hn
  induction n with
  | zero => obtain rfl : i = 0 := by omega
            exact Int.le_refl _
  | succ n ih =>
    by_cases e : i = n + 1
    · subst e; exact Int.le_refl _
    · have h1 := ih (by omega) (by omega)
      rw [cellN]
      have : 0 ≤ addB (nth l.boxes n) (j % 7) := by
        unfold addB
        split
        · omega
        · split
          · have := hl.bs _ (nth_mem (l := l.boxes) (i := n) (by omega)) _ (nth_mem (by assumption))
            split <;> omega
          · omega
      split <;> omega
theorem cellW_take (l : Ld) (w : List Int) {i : Nat} (h : i ≤ w.length) (j : Nat) : cellW l (w.take i) j = cellN l w i j := by
  unfold cellW
  have e : (w.take i).length = i := by rw [List.length_take]; omega
  rw [e]
  have := cellN_app l (w.take i) (w.drop i) j i (by omega)
  rw [List.take_append_drop] at this
  exact this.symm
theorem take_nth {w : List Int} {i : Nat} (h : i < w.length) : w.take (i + 1) = w.take i ++ [nth w i] := by rw [List.take_add_one, nth_eq h]; rfl
/-- Whatever the bills allow is among the ways. -/
theorem way_mem {l : Ld} {K : Nat} (hl : l.Ok K) {w : List Int} (hw : w.length = l.boxes.length) (hr : ∀ i, i < w.length → 0 ≤ nth w i ∧ nth w i < l.bills.length) (hm : mayAll l w l.bills.length = true) : ∀ r i, i + r = w.length → w ∈ waysF l r (w.take i)
  | 0, i, h => by
    have : w.take i = w := by rw [List.take_of_length_le (by omega)]
    rw [waysF, this, if_pos hm]
    simp
  | r + 1, i, h => by
    have hi := hr i (by omega)
    obtain ⟨c, hc⟩ : ∃ c : Nat, nth w i = (c : Int) := ⟨(nth w i).toNat, by omega⟩
    have ih := way_mem hl hw hr hm r (i + 1) (by omega)
    rw [take_nth (by omega), hc] at ih
    rw [waysF, List.mem_flatMap]
    refine ⟨c, List.mem_range.2 (by omega), ?_⟩
    unfold stepW
    have hno : overB (cartW l (w.take i ++ [(c : Int)]) c) (nth l.bills c) = false := by
      have ht : w.take i ++ [(c : Int)] = w.take (i + 1) := by rw [take_nth (by omega), hc]
      have hle : ∀ f, cartW l (w.take i ++ [(c : Int)]) c f ≤ cartW l w c f := fun f => by
        unfold cartW
        rw [ht, cellW_take l w (by omega)]
        unfold cellW
        exact cellN_mono hl w _ (by omega) (by omega)
      unfold mayAll at hm
      rw [List.all_eq_true] at hm
      have hmc := hm c (List.mem_range.2 (by omega))
      unfold mayB mayT mayK at hmc
      simp only [Bool.and_eq_true, decide_eq_true_eq, List.all_eq_true, List.mem_range, Bool.not_eq_true', Bool.or_eq_false_iff, decide_eq_false_iff_not] at hmc
      unfold overB overT
      rw [Bool.or_eq_false_iff, List.any_eq_false]
      refine ⟨fun k hk => ?_, ?_⟩
      · have := hmc.2 k (List.mem_range.1 hk)
        have := hle (1 + k * 2)
        simp only [decide_eq_true_eq]
        omega
      · have := hle 0
        rw [decide_eq_false_iff_not]
        omega
    rw [hno]
    exact ih
theorem all_mem {l : Ld} {K : Nat} (hl : l.Ok K) {w : List Int} (hw : w.length = l.boxes.length) (hr : ∀ i, i < w.length → 0 ≤ nth w i ∧ nth w i < l.bills.length) (hm : mayAll l w l.bills.length = true) : w ∈ allL l := by
  have := way_mem hl hw hr hm l.boxes.length 0 (by omega)
  simpa [allL] using this
/-- How many boxes a list gives to a carrier. -/
def cntN (w : List Int) : Nat → Nat → Int
  | 0, _ => 0
  | i + 1, c => cntN w i c + if nth w i = (c : Int) then 1 else 0
theorem cnt_cell (l : Ld) (w : List Int) (c : Nat) : ∀ i, cellN l w i (c * 7) = cntN w i c
  | 0 => rfl
  | i + 1 => by
    rw [cellN, cntN, cnt_cell l w c i, show c * 7 / 7 = c by omega, show c * 7 % 7 = 0 by omega]
    rfl
theorem cntN_bd (w : List Int) (c : Nat) : ∀ i, 0 ≤ cntN w i c ∧ cntN w i c ≤ i
  | 0 => by simp [cntN]
  | i + 1 => by
    have := cntN_bd w c i
    rw [cntN]
    split <;> omega
theorem may_cnt {l : Ld} {w : List Int} (hm : mayAll l w l.bills.length = true) {c : Nat} (hc : c < l.bills.length) : cntN w w.length c = (nth l.bills c).n := by
  unfold mayAll at hm
  rw [List.all_eq_true] at hm
  have := hm c (List.mem_range.2 hc)
  unfold mayB cartW at this
  simp only [Bool.and_eq_true, decide_eq_true_eq, Nat.add_zero] at this
  rw [← this.1]
  exact (cnt_cell l w c _).symm
end Go.Proofs.Ytmkholodkejomaa.Ab.T08
