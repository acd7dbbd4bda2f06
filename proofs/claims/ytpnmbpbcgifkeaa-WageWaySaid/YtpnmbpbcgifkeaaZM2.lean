/- The fewest numbers: what Change chooses is the least list of places. -/
import Derived.Test.YtpnmbpbcgifkeaaZM1
namespace Go.Proofs.Ytpnmbpbcgifkeaa.Ab.T12
open Go Go.RowKit
set_option linter.unusedVariables false
set_option linter.unusedSimpArgs false
set_option maxRecDepth 100000
theorem fldL_setF_ne (x : Ln) {f g : Nat} (hf : f < 3) (hg : g < 3) (h : g ≠ f) (v : Int) : fldL (setF x f v) g = fldL x g := by
  rcases (by omega : f = 0 ∨ f = 1 ∨ f = 2) with rfl | rfl | rfl <;> rcases (by omega : g = 0 ∨ g = 1 ∨ g = 2) with rfl | rfl | rfl <;> first | rfl | (exact absurd rfl h)
theorem numAt_set {b : Bl} {i j : Nat} (hi : i ≤ b.lines.length * 3) (hj : j ≤ b.lines.length * 3) (v : Int) : numAt (setN b i v) j = if j = i then v else numAt b j := by
  by_cases ci : i < b.lines.length * 3
  · rw [setN_lt ci]
    by_cases cj : j < b.lines.length * 3
    · rw [numAt_lt (b := ⟨_, _⟩) (by simp only [List.length_set]; exact cj), numAt_lt cj]
      simp only
      by_cases e : j / 3 = i / 3
      · rw [e, nth_set (by omega)]
        by_cases e2 : j = i
        · subst e2; rw [if_pos rfl, fldL_setF]
        · rw [if_neg e2, fldL_setF_ne _ (by omega) (by omega) (by omega)]
      · rw [nth_set_ne (by omega), if_neg (by intro h; exact e (by rw [h]))]
    · obtain rfl : j = b.lines.length * 3 := by omega
      rw [if_neg (by omega), numAt_end]
      have := numAt_end (⟨b.lines.set (i / 3) (setF (nth b.lines (i / 3)) (i % 3) v), b.total⟩ : Bl)
      simp only [List.length_set] at this
      exact this
  · obtain rfl : i = b.lines.length * 3 := by omega
    rw [setN_end]
    by_cases cj : j < b.lines.length * 3
    · rw [numAt_lt (b := (⟨b.lines, v⟩ : Bl)) cj, numAt_lt (b := b) cj, if_neg (by omega)]
    · obtain rfl : j = b.lines.length * 3 := by omega
      rw [if_pos rfl]
      exact numAt_end ⟨b.lines, v⟩
theorem numAt_rub : ∀ {l : List Nat} {b : Bl} {j : Nat}, (∀ i ∈ l, i ≤ b.lines.length * 3) → j ≤ b.lines.length * 3 → numAt (rubL b l) j = if j ∈ l then -1 else numAt b j
  | [], b, j, _, _ => by simp [rubL]
  | i :: l, b, j, h, hj => by
    have hl := setN_len b i (-1)
    rw [rubL, numAt_rub (by rw [hl]; exact fun k hk => h k (by simp [hk])) (by rw [hl]; exact hj), numAt_set (h i (by simp)) hj]
    by_cases c1 : j ∈ l
    · rw [if_pos c1, if_pos (by simp [c1])]
    · rw [if_neg c1]
      by_cases c2 : j = i
      · rw [if_pos c2, if_pos (by simp [c2])]
      · rw [if_neg c2, if_neg (by simp [c1, c2])]
theorem line_at {b : Bl} {i f : Nat} (hi : i < b.lines.length) (hf : f < 3) : fldL (nth b.lines i) f = numAt b (i * 3 + f) := by
  rw [numAt_lt (by omega), show (i * 3 + f) / 3 = i by omega, show (i * 3 + f) % 3 = f by omega]
theorem ln_ext {x y : Ln} (h : ∀ f, f < 3 → fldL x f = fldL y f) : x = y := by
  have h0 := h 0 (by omega)
  have h1 := h 1 (by omega)
  have h2 := h 2 (by omega)
  simp [fldL] at h0 h1 h2
  cases x; cases y
  simp_all
theorem pos_lines {b : Bl} (h : posP b) {i : Nat} (hi : i < b.lines.length) : ∃ x, x ∈ allL (nth b.lines i) := by
  obtain ⟨w, hw⟩ := List.exists_mem_of_ne_nil _ (pos_ways.1 h)
  exact ⟨_, (mem_allW.1 hw).1.2 i hi⟩
theorem hopeless_no {l x : Ln} (h : hopeless l = true) : x ∉ allL l := by
  intro hx
  obtain ⟨m, e, _, _, rfl, hf⟩ := mem_allL.1 hx
  unfold hopeless at h
  unfold fitL fitsB cand at hf
  simp only [Bool.and_eq_true, Bool.or_eq_true, decide_eq_true_eq, beq_iff_eq, bne_iff_ne, ne_eq] at h hf
  obtain ⟨h1, h2, h3, h4⟩ := h
  obtain ⟨g1, g2, g3⟩ := hf
  have e1 : l.many = m := by omega
  have e2 : l.each = e := by omega
  have e3 : l.amount = m * e := by omega
  exact h4 (by rw [e1, e2, e3])
theorem any_hopeless {b : Bl} (h : b.lines.any hopeless = true) : ¬ posP b := by
  intro hp
  obtain ⟨l, hl, hh⟩ := List.any_eq_true.1 h
  obtain ⟨i, hi, rfl⟩ := mem_nth hl
  obtain ⟨x, hx⟩ := pos_lines hp hi
  exact hopeless_no hh hx
/-- A bill that can be read, and that is wrong. -/
structure Rd (b : Bl) : Prop where
  ok : b.Ok
  bl : blotL b = []
  fa : faultL b ≠ []
theorem Rd.ge {b : Bl} (h : Rd b) {x : Ln} (hx : x ∈ b.lines) : (0 ≤ x.many ∧ x.many ≤ 50) ∧ (0 ≤ x.each ∧ x.each ≤ 50) ∧ 0 ≤ x.amount := by
  have h1 := h.ok.ln x hx
  have h2 := (blot_nil h.bl).1 x hx
  omega
theorem wrong_hopeless {b : Bl} (h : Rd b) {x : Ln} (hx : x ∈ b.lines) (hw : wrongL x = true) : hopeless x = true := by
  have h1 := h.ge hx
  unfold wrongL at hw
  unfold hopeless
  rw [decide_eq_true (show x.many ≥ 0 by omega), decide_eq_true (show x.each ≥ 0 by omega), decide_eq_true (show x.amount ≥ 0 by omega), hw]
  rfl
theorem touch {b : Bl} (h : Rd b) {l : List Nat} (hl : Inc 0 (b.lines.length * 3 + 1) l) (hp : posP (rubL b l)) {i : Nat} (hi : i < b.lines.length) (hw : wrongL (nth b.lines i) = true) : ∃ j ∈ l, j / 3 = i := by
  refine Classical.byContradiction fun hn => ?_
  have hle : ∀ k ∈ l, k ≤ b.lines.length * 3 := fun k hk => by have := (hl.mem k hk).2; omega
  have e : nth (rubL b l).lines i = nth b.lines i := ln_ext fun f hf => by
    rw [line_at (by rw [rubL_len]; exact hi) hf, line_at hi hf, numAt_rub hle (by omega), if_neg]
    exact fun hm => hn ⟨_, hm, by omega⟩
  obtain ⟨x, hx⟩ := pos_lines hp (i := i) (by rw [rubL_len]; exact hi)
  rw [e] at hx
  exact hopeless_no (wrong_hopeless h (nth_mem hi) hw) hx
def belowL (l : List Nat) (i : Nat) : Nat := (l.filter fun j => decide (j / 3 < i)).length
theorem below_le : ∀ (l : List Nat) (i : Nat), belowL l i ≤ belowL l (i + 1) ∧ ((∃ j ∈ l, j / 3 = i) → belowL l i + 1 ≤ belowL l (i + 1))
  | [], i => ⟨Nat.le_refl _, fun ⟨_, h, _⟩ => by simp at h⟩
  | a :: l, i => by
    obtain ⟨h1, h2⟩ := below_le l i
    unfold belowL at *
    by_cases c : a / 3 < i
    · rw [List.filter_cons_of_pos (by simpa using c), List.filter_cons_of_pos (by simp; omega), List.length_cons, List.length_cons]
      refine ⟨by omega, fun ⟨j, hj, e⟩ => ?_⟩
      rcases List.mem_cons.1 hj with rfl | hj
      · omega
      · have := h2 ⟨j, hj, e⟩; omega
    · rw [List.filter_cons_of_neg (by simpa using c)]
      by_cases c2 : a / 3 = i
      · rw [List.filter_cons_of_pos (by simp; omega), List.length_cons]
        exact ⟨by omega, fun _ => by omega⟩
      · rw [List.filter_cons_of_neg (by simp; omega)]
        refine ⟨h1, fun ⟨j, hj, e⟩ => ?_⟩
        rcases List.mem_cons.1 hj with rfl | hj
        · exact absurd e c2
        · exact h2 ⟨j, hj, e⟩
theorem wrong_few {b : Bl} (h : Rd b) {l : List Nat} (hl : Inc 0 (b.lines.length * 3 + 1) l) (hp : posP (rubL b l)) : wrongN b b.lines.length ≤ l.length := by
  have key : ∀ i, i ≤ b.lines.length → wrongN b i ≤ belowL l i := by
    intro i
    induction i with
    | zero => intro _; simp [wrongN]
    | succ i ih =>
      intro hi
      have h1 := ih (by omega)
      obtain ⟨h2, h3⟩ := below_le l i
      rw [wrongN_succ]
      cases hw : wrongL (nth b.lines i) with
      | false => simp; omega
      | true =>
        have := h3 (touch h hl hp (by omega) hw)
        simp
        omega
  have h1 := key _ (Nat.le_refl _)
  have h2 : belowL l b.lines.length ≤ l.length := List.length_filter_le _ _
  omega
/-- The places of the amounts of wrong lines. -/
def wrongP (b : Bl) (n : Nat) : List Nat := ((List.range n).filter fun j => wrongL (nth b.lines j)).map fun j => j * 3 + 2
theorem wrongP_inc (b : Bl) : ∀ n, Inc 0 (n * 3) (wrongP b n)
  | 0 => trivial
  | n + 1 => by
    have ih := wrongP_inc b n
    unfold wrongP at *
    rw [List.range_succ, List.filter_append, List.map_append]
    cases hw : wrongL (nth b.lines n) with
    | false => simp [hw]; exact ih.wide (by omega)
    | true =>
      simp [hw]
      have := inc_app (ih.wide (show n * 3 ≤ n * 3 + 2 by omega)) (i := n * 3 + 2) (by omega) (by omega)
      rw [show (n + 1) * 3 = n * 3 + 2 + 1 by omega]
      exact this
theorem wrongP_mem {b : Bl} {n i f : Nat} (hi : i < n) (hf : f < 3) : i * 3 + f ∈ wrongP b n ↔ f = 2 ∧ wrongL (nth b.lines i) = true := by
  unfold wrongP
  constructor
  · intro h
    obtain ⟨j, hj, e⟩ := List.mem_map.1 h
    obtain ⟨h1, h2⟩ := List.mem_filter.1 hj
    have : j = i := by omega
    subst this
    exact ⟨by omega, h2⟩
  · rintro ⟨rfl, hw⟩
    exact List.mem_map.2 ⟨i, List.mem_filter.2 ⟨List.mem_range.2 hi, hw⟩, rfl⟩
theorem some_good {b : Bl} (h : Rd b) : ∃ l, Inc 0 (b.lines.length * 3 + 1) l ∧ posP (rubL b l) ∧ l.length = wrongN b b.lines.length + 1 := by
  have hi := wrongP_inc b b.lines.length
  have hI : Inc 0 (b.lines.length * 3 + 1) (wrongP b b.lines.length ++ [b.lines.length * 3]) := inc_app hi (Nat.le_refl _) (by omega)
  refine ⟨_, hI, ?_, by simp [wrongP, wrongN]⟩
  have hle : ∀ k ∈ wrongP b b.lines.length ++ [b.lines.length * 3], k ≤ b.lines.length * 3 := fun k hk => by have := (hI.mem k hk).2; omega
  have ht : (rubL b (wrongP b b.lines.length ++ [b.lines.length * 3])).total = -1 := by
    have h1 := numAt_rub hle (Nat.le_refl (b.lines.length * 3))
    rw [if_pos (by simp)] at h1
    have h2 := numAt_end (rubL b (wrongP b b.lines.length ++ [b.lines.length * 3]))
    rw [rubL_len] at h2
    rw [← h2]; exact h1
  refine pos_ways.2 ?_
  have hch : Ch (rubL b (wrongP b b.lines.length ++ [b.lines.length * 3])).lines (b.lines.map fun x => cand x.many.toNat x.each.toNat) := by
    refine ⟨by rw [List.length_map, rubL_len], fun i hi' => ?_⟩
    rw [rubL_len] at hi'
    have hg := h.ge (nth_mem hi')
    have en : nth (b.lines.map fun x => cand x.many.toNat x.each.toNat) i = cand (nth b.lines i).many.toNat (nth b.lines i).each.toNat := by
      have := nth_eq hi'
      unfold nth
      rw [List.getD_eq_getElem?_getD, List.getElem?_map, this]
      rfl
    rw [en]
    have hf : ∀ f, f < 3 → fldL (nth (rubL b (wrongP b b.lines.length ++ [b.lines.length * 3])).lines i) f = if f = 2 ∧ wrongL (nth b.lines i) = true then -1 else fldL (nth b.lines i) f := fun f hf => by
      rw [line_at (by rw [rubL_len]; exact hi') hf, numAt_rub hle (by omega), line_at hi' hf]
      by_cases c : f = 2 ∧ wrongL (nth b.lines i) = true
      · rw [if_pos c, if_pos (List.mem_append.2 (.inl ((wrongP_mem hi' hf).2 c)))]
      · rw [if_neg c, if_neg]
        intro hm
        rcases List.mem_append.1 hm with hm | hm
        · exact c ((wrongP_mem hi' hf).1 hm)
        · have := List.mem_singleton.1 hm; omega
    have f0 := hf 0 (by omega)
    have f1 := hf 1 (by omega)
    have f2 := hf 2 (by omega)
    rw [if_neg (by omega)] at f0 f1
    simp only [fldL] at f0 f1 f2
    simp at f0 f1 f2
    refine mem_allL.2 ⟨_, _, ?_, ?_, rfl, ?_⟩
    · omega
    · omega
    · unfold fitL fitsB cand
      have e1 : (((nth b.lines i).many.toNat : Nat) : Int) = (nth b.lines i).many := by omega
      have e2 : (((nth b.lines i).each.toNat : Nat) : Int) = (nth b.lines i).each := by omega
      simp only [Bool.and_eq_true, Bool.or_eq_true, beq_iff_eq]
      rw [e1, e2, f0, f1, f2]
      refine ⟨.inr rfl, .inr rfl, ?_⟩
      cases hw : wrongL (nth b.lines i) with
      | true => exact .inl (by simp)
      | false =>
        refine .inr ?_
        simp
        exact (wrong_iff.1 hw).symm
  exact List.ne_nil_of_mem (mem_allW.2 (show Ch (rubL b (wrongP b b.lines.length ++ [b.lines.length * 3])).lines (⟨b.lines.map fun x => cand x.many.toNat x.each.toNat, sumA (b.lines.map fun x => cand x.many.toNat x.each.toNat) (b.lines.map fun x => cand x.many.toNat x.each.toNat).length⟩ : Bl).lines ∧ _ from ⟨hch, rfl, .inl ht⟩))
theorem good_some {b : Bl} (h : Rd b) {l : List Nat} (hp : posP (rubL b l)) : l ≠ [] := by
  rintro rfl
  exact h.fa (pos_read h.bl hp)
end Go.Proofs.Ytpnmbpbcgifkeaa.Ab.T12
