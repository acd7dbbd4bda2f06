/- The fewest numbers: what Change chooses is the least list of places. -/
import Derived.Test.YtpnmbpbcgifkeaaZM1
namespace Go.Proofs.Ytpnmbpbcgifkeaa.Ab.T12
open Go Go.RowKit
set_option linter.unusedVariables false
set_option linter.unusedSimpArgs false
set_option maxRecDepth 100000
theorem fldL_setF_ne (x : Ln) {f g : Nat} (hf : f < 3) (hg : g < 3) (h : g ≠ f) (v : Int) : fldL (setF x f v) g = fldL x g := by
  rcases (by omega : f = 0 ∨ f = 1 ∨ f = 2) with rfl | rfl | rfl <;> rcases (by omega : g = 0 ∨ g = 1 ∨ g = 2) with rfl | rfl | rfl <;> first | rfl | (exact absurd rfl h)
theorem numAt_set {b : Bl} {i j : Nat} (hi : i ≤ b.lines.length * 3) (hj : j ≤ b.lines.length * 3) (v : Int) : numAt (setN b i v) j = if j = i then v else numAt b j := by
  by_cases ci : i < b.lines.length * 3
  · rw [setN_lt ci]
    by_cases cj : j < b.lines.length * 3
    · rw [numAt_lt (b := ⟨_, _⟩) (by simp only [List.length_set]; exact cj), numAt_lt cj]
      simp only
      by_cases e : j / 3 = i / 3
      · rw [e, nth_set (by omega)]
        by_cases e2 : j = i
        · subst e2; rw [if_pos rfl, fldL_setF]
        · rw [if_neg e2, fldL_setF_ne _ (by omega) (by omega) (by omega)]
      · rw [nth_set_ne (by omega), if_neg (by intro h; exact e (by rw [h]))]
    · obtain rfl : j = b.lines.length * 3 := by omega
      rw [if_neg (by omega), numAt_end]
      have := numAt_end (⟨b.lines.set (i / 3) (setF (nth b.lines (i / 3)) (i % 3) v), b.total⟩ : Bl)
      simp only [List.length_set] at this
      exact this
  · obtain rfl : i = b.lines.length * 3 := by omega
    rw [setN_end]
    by_cases cj : j < b.lines.length * 3
    · rw [numAt_lt (b := (⟨b.lines, v⟩ : Bl)) cj, numAt_lt (b := b) cj, if_neg (by omega)]
    · obtain rfl : j = b.lines.length * 3 := by omega
      rw [if_pos rfl]
      exact numAt_end ⟨b.lines, v⟩
theorem numAt_rub : ∀ {l : List Nat} {b : Bl} {j : Nat}, (∀ i ∈ l, i ≤ b.lines.length * 3) → j ≤ b.lines.length * 3 → numAt (rubL b l) j = if j ∈ l then -1 else numAt b j
  | [], b, j, _, _ => by simp [rubL]
  | i :: l, b, j, h, hj => by
    have hl := setN_len b i (-1)
    rw [rubL, numAt_rub (by rw [hl]; exact fun k hk => h k (by simp [hk])) (by rw [hl]; exact hj), numAt_set (h i (by simp)) hj]
    by_cases c1 : j ∈ l
    · rw [if_pos c1, if_pos (by simp [c1])]
    · rw [if_neg c1]
      by_cases c2 : j = i
      · rw [if_pos c2, if_pos (by simp [c2])]
      · rw [if_neg c2, if_neg (by simp [c1, c2])]
theorem line_at {b : Bl} {i f : Nat} (hi : i < b.lines.length) (hf : f < 3) : fldL (nth b.lines i) f = numAt b (i * 3 + f) := by
  rw [numAt_lt (by omega), show (i * 3 + f) / 3 = i by omega, show (i * 3 + f) % 3 = f by omega]
theorem ln_ext {x y : Ln} (h : ∀ f, f < 3 → fldL x f = fldL y f) : x = y := by
  have h0 := h 0 (by omega)
  have h1 := h 1 (by omega)
  have h2 := h 2 (by omega)
  simp [fldL] at h0 h1 h2
  cases x; cases y
  simp_all
theorem pos_lines {b : Bl} (h : posP b) {i : Nat} (hi : i < b.lines.length) : ∃ x, x ∈ allL (nth b.lines i) := by
  obtain ⟨w, hw⟩ := List.exists_mem_of_ne_nil _ (pos_ways.1 h)
  exact ⟨_, (mem_allW.1 hw).1.2 i hi⟩
theorem hopeless_no {l x : Ln} (h : hopeless l = true) : x ∉ allL l := by
  intro hx
  obtain ⟨m, e, _, _, rfl, hf⟩ := mem_allL.1 hx
  unfold hopeless at h
  unfold fitL fitsB cand at hf
  simp only [Bool.and_eq_true, Bool.or_eq_true, decide_eq_true_eq, beq_iff_eq, bne_iff_ne, ne_eq] at h hf
  obtain ⟨h1, h2, h3, h4⟩ := h
  obtain ⟨g1, g2, g3⟩ := hf
  have e1 : l.many = m := by omega
  have e2 : l.each = e := by omega
  have e3 : l.amount = m * e := by omega
  exact h4 (by rw [e1, e2, e3])
/-- A bill that can be read, and that is wrong. -/
structure Rd (b : Bl) : Prop where
  ok : b.Ok
  bl : blotL b = []
  fa : faultL b ≠ []
theorem Rd.ge {b : Bl} (h : Rd b) {x : Ln} (hx : x ∈ b.lines) : (0 ≤ x.many ∧ x.many ≤ 50) ∧ (0 ≤ x.each ∧ x.each ≤ 50) ∧ 0 ≤ x.amount := by
  have h1 := h.ok.ln x hx
  have h2 := (blot_nil h.bl).1 x hx
  omega
theorem wrong_hopeless {b : Bl} (h : Rd b) {x : Ln} (hx : x ∈ b.lines) (hw : wrongL x = true) : hopeless x = true := by
  have h1 := h.ge hx
  unfold wrongL at hw
  unfold hopeless
  rw [decide_eq_true (show x.many ≥ 0 by omega), decide_eq_true (show x.each ≥ 0 by omega), decide_eq_true (show x.amount ≥ 0 by omega), hw]
  rfl
theorem touch {b : Bl} (h : Rd b) {l : List Nat} (hl : Inc 0 (b.lines.length * 3 + 1) l) (hp : posP (rubL b l)) {i : Nat} (hi : i < b.lines.length) (hw : wrongL (nth b.lines i) = true) : ∃ j ∈ l, j / 3 = i := by
  refine Classical.byContradiction fun hn => ?_
  have hle : ∀ k ∈ l, k ≤ b.lines.length * 3 := fun k hk => by have := (hl.mem k hk).2; omega
  have e : nth (rubL b l).lines i = nth b.lines i := ln_ext fun f hf => by
    rw [line_at (by rw [rubL_len]; exact hi) hf, line_at hi hf, numAt_rub hle (by omega), if_neg]
    exact fun hm => hn ⟨_, hm, by omega⟩
  obtain ⟨x, hx⟩ := pos_lines hp (i := i) (by rw [rubL_len]; exact hi)
  rw [e] at hx
  exact hopeless_no (wrong_hopeless h (nth_mem hi) hw) hx
end Go.Proofs.Ytpnmbpbcgifkeaa.Ab.T12
