/- What numbers can be, by all ways: plain. -/
import Derived.Test.YtpnmbpbcgifkeaaZK5
import Derived.Test.YtpnmbpbcgifkeaaZH3
namespace Go.Proofs.Ytpnmbpbcgifkeaa.Ab.T12
open Go Go.RowKit
set_option linter.unusedVariables false
set_option linter.unusedSimpArgs false
set_option maxRecDepth 100000
/-- A choice of lines. -/
def Ch (ls xs : List Ln) : Prop := xs.length = ls.length ∧ ∀ i, i < ls.length → nth xs i ∈ allL (nth ls i)
theorem nth_cons_zero {α : Type} [Inhabited α] (a : α) (l : List α) : nth (a :: l) 0 = a := rfl
theorem nth_cons_succ {α : Type} [Inhabited α] (a : α) (l : List α) (i : Nat) : nth (a :: l) (i + 1) = nth l i := rfl
theorem nth_app_lt {α : Type} [Inhabited α] {a b : List α} {i : Nat} (h : i < a.length) : nth (a ++ b) i = nth a i := by
  unfold nth
  simp [List.getD_eq_getElem?_getD, List.getElem?_append_left h]
theorem nth_app_end {α : Type} [Inhabited α] (a : List α) (x : α) : nth (a ++ [x]) a.length = x := by
  unfold nth
  simp [List.getD_eq_getElem?_getD]
theorem mem_ways {tot : Int} {w : Bl} : ∀ {ls now : List Ln}, w ∈ waysL tot ls now ↔ ∃ xs, Ch ls xs ∧ w = ⟨now ++ xs, sumA (now ++ xs) (now ++ xs).length⟩ ∧ (tot = -1 ∨ tot = sumA (now ++ xs) (now ++ xs).length)
  | [], now => by
    unfold waysL
    constructor
    · intro h
      split at h
      · simp at h
      · rename_i hc
        refine ⟨[], ⟨rfl, fun i hi => by simp at hi⟩, by rw [List.append_nil]; simpa using h, ?_⟩
        rw [List.append_nil]
        by_cases c : tot = -1
        · exact .inl c
        · exact .inr (Classical.byContradiction fun h => hc ⟨c, h⟩)
    · rintro ⟨xs, ⟨h1, _⟩, h2, h3⟩
      obtain rfl : xs = [] := List.length_eq_zero_iff.1 (by simpa using h1)
      rw [List.append_nil] at h2 h3
      rw [if_neg (fun h => h3.elim h.1 h.2), h2]
      simp
  | l :: ls, now => by
    simp only [waysL, List.mem_flatMap]
    constructor
    · rintro ⟨x, hx, hw⟩
      obtain ⟨xs, ⟨h1, h2⟩, h3, h4⟩ := mem_ways.1 hw
      rw [List.append_assoc, List.singleton_append] at h3 h4
      refine ⟨x :: xs, ⟨by simp [h1], fun i hi => ?_⟩, h3, h4⟩
      cases i with
      | zero => exact hx
      | succ i => exact h2 i (by simpa using hi)
    · rintro ⟨xs, ⟨h1, h2⟩, h3, h4⟩
      cases xs with
      | nil => simp at h1
      | cons x xs =>
        refine ⟨x, h2 0 (by simp), mem_ways.2 ⟨xs, ⟨by simpa using h1, fun i hi => h2 (i + 1) (by simpa using hi)⟩, ?_, ?_⟩⟩
        · rw [List.append_assoc, List.singleton_append]; exact h3
        · rw [List.append_assoc, List.singleton_append]; exact h4
def sumB (l : List Ln) (but : Int) : Nat → Int
  | 0 => 0
  | i + 1 => if (i : Int) = but then sumB l but i else sumB l but i + (nth l i).amount
theorem sumB_congr {a b : List Ln} {q : Int} : ∀ {i : Nat}, (∀ j : Nat, j < i → (j : Int) ≠ q → nth a j = nth b j) → sumB a q i = sumB b q i
  | 0, _ => rfl
  | i + 1, h => by
    have ih := sumB_congr (i := i) fun j hj => h j (by omega)
    simp only [sumB]
    by_cases c : (i : Int) = q
    · rw [if_pos c, if_pos c, ih]
    · rw [if_neg c, if_neg c, ih, h i (by omega) c]
theorem sumB_all (l : List Ln) : ∀ i, sumB l (-1) i = sumA l i
  | 0 => rfl
  | i + 1 => by
    simp only [sumB, sumA]
    rw [if_neg (by omega), sumB_all l i]
theorem sumB_lt (l : List Ln) {q : Nat} : ∀ {i : Nat}, i ≤ q → sumB l q i = sumA l i
  | 0, _ => rfl
  | i + 1, h => by
    simp only [sumB, sumA]
    rw [if_neg (by omega), sumB_lt l (by omega)]
theorem sumB_split (l : List Ln) {q : Nat} : ∀ {i : Nat}, q < i → sumA l i = sumB l q i + (nth l q).amount
  | 0, h => by omega
  | i + 1, h => by
    simp only [sumB, sumA]
    by_cases c : q = i
    · subst c
      rw [if_pos rfl, sumB_lt l (Nat.le_refl _)]
    · rw [if_neg (by omega), sumB_split l (q := q) (i := i) (by omega)]
      omega
theorem oth_of {L xs : List Ln} {q : Int} : ∀ {i : Nat}, (∀ j : Nat, j < i → (j : Int) ≠ q → nth xs j ∈ allL (nth L j)) → othT L q i (sumB xs q i)
  | 0, _ => rfl
  | i + 1, h => by
    have ih := oth_of (i := i) fun j hj => h j (by omega)
    unfold othT
    simp only [sumB]
    by_cases c : (i : Int) = q
    · rw [if_pos c, if_pos c]; exact ih
    · rw [if_neg c, if_neg c]
      exact ⟨_, _, ih, ⟨_, h i (by omega) c, rfl⟩, rfl⟩
theorem of_oth {L : List Ln} {q : Int} : ∀ {i : Nat} {z : Int}, othT L q i z → ∃ xs : List Ln, xs.length = i ∧ (∀ j : Nat, j < i → (j : Int) ≠ q → nth xs j ∈ allL (nth L j)) ∧ sumB xs q i = z
  | 0, z, h => ⟨[], rfl, fun j hj => by omega, (show z = 0 from h).symm⟩
  | i + 1, z, h => by
    unfold othT at h
    by_cases c : (i : Int) = q
    · rw [if_pos c] at h
      obtain ⟨xs, h1, h2, h3⟩ := of_oth h
      refine ⟨xs ++ [default], by simp [h1], fun j hj hq => ?_, ?_⟩
      · rw [nth_app_lt (by omega)]; exact h2 j (by omega) hq
      · simp only [sumB]
        rw [if_pos c, ← h3]
        exact sumB_congr fun j hj _ => nth_app_lt (by omega)
    · rw [if_neg c] at h
      obtain ⟨a, d, h4, ⟨x, hx, rfl⟩, rfl⟩ := h
      obtain ⟨xs, h1, h2, h3⟩ := of_oth h4
      refine ⟨xs ++ [x], by simp [h1], fun j hj hq => ?_, ?_⟩
      · by_cases e : j = i
        · subst e; rw [← h1, nth_app_end, h1]; exact hx
        · rw [nth_app_lt (by omega)]; exact h2 j (by omega) hq
      · simp only [sumB]
        have e1 : sumB (xs ++ [x]) q i = sumB xs q i := sumB_congr fun j hj _ => nth_app_lt (by omega)
        have e2 : nth (xs ++ [x]) i = x := by rw [← h1]; exact nth_app_end xs x
        rw [if_neg c, e1, e2, h3]
/-- All ways of a bill. -/
def allW (b : Bl) : List Bl := waysL b.total b.lines []
theorem mem_allW {b w : Bl} : w ∈ allW b ↔ Ch b.lines w.lines ∧ w.total = sumA w.lines w.lines.length ∧ (b.total = -1 ∨ b.total = w.total) := by
  unfold allW
  rw [mem_ways]
  constructor
  · rintro ⟨xs, h1, rfl, h3⟩
    exact ⟨h1, rfl, h3⟩
  · rintro ⟨h1, h2, h3⟩
    refine ⟨w.lines, h1, ?_, ?_⟩
    · rw [List.nil_append, ← h2]
    · rw [List.nil_append, ← h2]; exact h3
theorem ch_of {b : Bl} {z : Int} (h : othL b (-1) z) : ∃ xs, Ch b.lines xs ∧ sumA xs xs.length = z := by
  obtain ⟨xs, h1, h2, h3⟩ := of_oth h
  refine ⟨xs, ⟨h1, fun i hi => h2 i hi (by omega)⟩, ?_⟩
  rw [h1, ← sumB_all]; exact h3
theorem of_ch {b : Bl} {xs : List Ln} (h : Ch b.lines xs) : othL b (-1) (sumA xs xs.length) := by
  have h1 := oth_of (L := b.lines) (xs := xs) (q := -1) (i := b.lines.length) fun j hj _ => h.2 j hj
  rw [sumB_all, ← h.1] at h1
  show othT b.lines (-1) b.lines.length _
  rw [h.1] at h1
  rw [h.1]
  exact h1
theorem pos_ways {b : Bl} : posP b ↔ allW b ≠ [] := by
  constructor
  · rintro (⟨h1, z, h2⟩ | h)
    · obtain ⟨xs, c, s⟩ := ch_of h2
      exact List.ne_nil_of_mem (mem_allW.2 (show Ch b.lines (⟨xs, sumA xs xs.length⟩ : Bl).lines ∧ _ from ⟨c, rfl, .inl h1⟩))
    · obtain ⟨xs, c, s⟩ := ch_of h
      exact List.ne_nil_of_mem (mem_allW.2 (show Ch b.lines (⟨xs, sumA xs xs.length⟩ : Bl).lines ∧ _ from ⟨c, rfl, .inr s.symm⟩))
  · intro h
    obtain ⟨w, hw⟩ := List.exists_mem_of_ne_nil _ h
    obtain ⟨h1, h2, h3⟩ := mem_allW.1 hw
    rcases h3 with h3 | h3
    · exact .inl ⟨h3, _, of_ch h1⟩
    · refine .inr ?_
      rw [h3, h2]
      exact of_ch h1
theorem can_ways {b : Bl} {q f : Nat} (hq : q < b.lines.length) {z : Int} : canS b q f z ↔ ∃ w ∈ allW b, fldL (nth w.lines q) f = z := by
  constructor
  · rintro ⟨x, hx, ⟨⟨z1, hz1⟩, h2⟩, rfl⟩
    obtain ⟨z0, h3, h4⟩ : ∃ z0, othL b q z0 ∧ (b.total = -1 ∨ b.total = z0 + x.amount) := by
      rcases h2 with h2 | h2
      · exact ⟨z1, hz1, .inl h2⟩
      · exact ⟨_, h2, .inr (by omega)⟩
    obtain ⟨xs, g1, g2, g3⟩ := of_oth h3
    have e1 : nth (xs.set q x) q = x := nth_set (by omega) x
    have e2 : ∀ j : Nat, (j : Int) ≠ q → nth (xs.set q x) j = nth xs j := fun j hj => nth_set_ne (by omega) x
    have hl : (xs.set q x).length = b.lines.length := by rw [List.length_set, g1]
    have hc : Ch b.lines (xs.set q x) := ⟨hl, fun i hi => by
      by_cases c : i = q
      · subst c; rw [e1]; exact hx
      · rw [e2 i (by omega)]; exact g2 i hi (by omega)⟩
    have hs : sumA (xs.set q x) (xs.set q x).length = z0 + x.amount := by
      rw [hl, sumB_split _ hq, e1, ← g3]
      congr 1
      exact sumB_congr fun j _ hj => e2 j hj
    refine ⟨⟨xs.set q x, sumA (xs.set q x) (xs.set q x).length⟩, mem_allW.2 ⟨hc, rfl, ?_⟩, by simp only; rw [e1]⟩
    simp only
    rw [hs]
    exact h4
  · rintro ⟨w, hw, rfl⟩
    obtain ⟨h1, h2, h3⟩ := mem_allW.1 hw
    have h4 : othL b q (sumB w.lines q b.lines.length) := oth_of fun j hj _ => h1.2 j hj
    refine ⟨_, h1.2 q hq, ⟨⟨_, h4⟩, ?_⟩, rfl⟩
    rcases h3 with h3 | h3
    · exact .inl h3
    · refine .inr ?_
      have : b.total - (nth w.lines q).amount = sumB w.lines q b.lines.length := by
        rw [h3, h2, h1.1, sumB_split _ hq]
        omega
      rw [this]
      exact h4
theorem tot_ways {b : Bl} (ht : b.total = -1) {z : Int} : othL b (-1) z ↔ ∃ w ∈ allW b, w.total = z := by
  constructor
  · intro h
    obtain ⟨xs, c, s⟩ := ch_of h
    exact ⟨⟨xs, sumA xs xs.length⟩, mem_allW.2 ⟨c, rfl, .inl ht⟩, s⟩
  · rintro ⟨w, hw, rfl⟩
    obtain ⟨h1, h2, _⟩ := mem_allW.1 hw
    rw [h2]
    exact of_ch h1
theorem way_len {b w : Bl} (h : w ∈ allW b) : w.lines.length = b.lines.length := (mem_allW.1 h).1.1
theorem val_ways {b : Bl} {j : Nat} (hj : j ≤ b.lines.length * 3) (hn : numAt b j = -1) {z : Int} : valS b (markAt b.lines.length j) z ↔ ∃ w ∈ allW b, numAt w j = z := by
  by_cases c : j < b.lines.length * 3
  · have e : valS b (markAt b.lines.length j) = canS b (j / 3) (j % 3) := by
      unfold valS
      rw [markAt_lt c]
      simp only
      rw [if_neg (by omega)]
      have e1 : (((j / 3 : Nat) : Int)).toNat = j / 3 := by omega
      have e2 : (((1 + j % 3 : Nat) : Int) - 1).toNat = j % 3 := by omega
      rw [e1, e2]
    rw [e, can_ways (by omega)]
    have e3 : ∀ w ∈ allW b, numAt w j = fldL (nth w.lines (j / 3)) (j % 3) := fun w hw => numAt_lt (by rw [way_len hw]; exact c)
    constructor
    · rintro ⟨w, hw, h⟩; exact ⟨w, hw, by rw [e3 w hw]; exact h⟩
    · rintro ⟨w, hw, h⟩; exact ⟨w, hw, by rw [← e3 w hw]; exact h⟩
  · obtain rfl : j = b.lines.length * 3 := by omega
    have e : valS b (markAt b.lines.length (b.lines.length * 3)) = othL b (-1) := by
      unfold valS
      rw [markAt_end]
      rfl
    rw [numAt_end] at hn
    rw [e, tot_ways hn]
    have e3 : ∀ w ∈ allW b, numAt w (b.lines.length * 3) = w.total := fun w hw => by rw [← way_len hw]; exact numAt_end w
    constructor
    · rintro ⟨w, hw, h⟩; exact ⟨w, hw, by rw [e3 w hw]; exact h⟩
    · rintro ⟨w, hw, h⟩; exact ⟨w, hw, by rw [← e3 w hw]; exact h⟩
instance : Inhabited Bl := ⟨⟨[], 0⟩⟩
theorem way_bd {b w : Bl} (hl : b.lines.length ≤ 5) (hw : w ∈ allW b) (j : Nat) (hj : j ≤ b.lines.length * 3) : 0 ≤ numAt w j ∧ numAt w j ≤ 12500 := by
  obtain ⟨h1, h2, _⟩ := mem_allW.1 hw
  by_cases c : j < b.lines.length * 3
  · rw [numAt_lt (by rw [h1.1]; exact c)]
    have hm := h1.2 (j / 3) (by omega)
    have := canS_bd (b := ⟨b.lines, -1⟩) (q := j / 3) (f := j % 3) _ ((can_ways (b := ⟨b.lines, -1⟩) (by simp only; omega)).2 ⟨w, mem_allW.2 ⟨h1, h2, .inl rfl⟩, rfl⟩)
    omega
  · obtain rfl : j = b.lines.length * 3 := by omega
    have e : numAt w (b.lines.length * 3) = w.total := by rw [← h1.1]; exact numAt_end w
    have h3 := of_ch h1
    have h4 := othT_bd _ _ _ _ h3
    rw [e, h2]
    omega
end Go.Proofs.Ytpnmbpbcgifkeaa.Ab.T12
