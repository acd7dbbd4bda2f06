/- Slips of a bill with one wrong number: plain. The way back is among the slips; Change names the first slip's number: plain. Change names the first slip's number; the way back: plain. -/
import Derived.Test.YtpnmbpbcgifkeaaZN1
namespace Go.Proofs.Ytpnmbpbcgifkeaa.Ab.T12
open Go Go.RowKit
set_option linter.unusedVariables false
set_option linter.unusedSimpArgs false
set_option maxRecDepth 100000
theorem way_right {b w : Bl} (h : w ∈ allW b) : faultL w = [] := by
  obtain ⟨h1, h2, h3⟩ := mem_allW.1 h
  rw [right_iff]
  refine ⟨fun j hj => ?_, h2.symm⟩
  obtain ⟨m, e, _, _, he, _⟩ := mem_allL.1 (h1.2 j (by rw [← h1.1]; exact hj))
  rw [he]
  simp [wrongL, cand]
theorem right_way {b w : Bl} (hb : AOk w) (hw : faultL w = []) (hl : w.lines.length = b.lines.length) (h : ∀ j, j ≤ b.lines.length * 3 → numAt b j = -1 ∨ numAt b j = numAt w j) : w ∈ allW b := by
  obtain ⟨h1, h2⟩ := right_iff.1 hw
  refine mem_allW.2 ⟨⟨hl, fun i hi => ?_⟩, h2.symm, ?_⟩
  · have g : ∀ f, f < 3 → fldL (nth b.lines i) f = -1 ∨ fldL (nth b.lines i) f = fldL (nth w.lines i) f := fun f hf => by
      rw [line_at hi hf, line_at (by omega) hf]
      exact h _ (by omega)
    have b0 : ∀ f, f < 3 → 0 ≤ fldL (nth w.lines i) f ∧ fldL (nth w.lines i) f ≤ (if f = 2 then 2500 else 50) := fun f hf => by
      rw [line_at (by omega) hf]
      have := hb.num (i * 3 + f) (by omega)
      rw [mostAt_lt (by omega), show (i * 3 + f) % 3 = f by omega] at this
      refine ⟨this.1, ?_⟩
      have h3 := this.2
      split at h3
      · rename_i hc; rw [if_pos hc]; exact h3
      · rename_i hc; rw [if_neg hc]; exact h3
    have c0 := b0 0 (by omega)
    have c1 := b0 1 (by omega)
    have g0 := g 0 (by omega)
    have g1 := g 1 (by omega)
    have g2 := g 2 (by omega)
    have hw2 := wrong_iff.1 (h1 i (by omega))
    simp [fldL] at c0 c1 g0 g1 g2
    refine mem_allL.2 ⟨(nth w.lines i).many.toNat, (nth w.lines i).each.toNat, by omega, by omega, ?_, ?_⟩
    · have e1 : (((nth w.lines i).many.toNat : Nat) : Int) = (nth w.lines i).many := by omega
      have e2 : (((nth w.lines i).each.toNat : Nat) : Int) = (nth w.lines i).each := by omega
      unfold cand
      rw [e1, e2, hw2]
    · unfold fitL fitsB
      simp only [Bool.and_eq_true, Bool.or_eq_true, beq_iff_eq]
      exact ⟨g0, g1, g2⟩
  · have h3 := h (b.lines.length * 3) (Nat.le_refl _)
    rw [numAt_end] at h3
    have h4 := numAt_end w
    rw [hl] at h4
    rw [h4] at h3
    exact h3
/-- One number alone: it can be right without it just if another number makes it right. -/
theorem one_slip {b : Bl} (h : AOk b) {k : Nat} (hk : k ≤ b.lines.length * 3) : posP (rubL b [k]) ↔ ∃ c : Int, (0 ≤ c ∧ c ≤ mostAt b.lines.length k) ∧ faultL (setN b k c) = [] := by
  have hinc : Inc 0 (b.lines.length * 3 + 1) [k] := ⟨by omega, by omega, trivial⟩
  have hl := rubL_len [k] b
  constructor
  · intro hp
    obtain ⟨w, hw⟩ := List.exists_mem_of_ne_nil _ (pos_ways.1 hp)
    have wl := way_len hw
    rw [hl] at wl
    -- a way is the bill with another number
    have hc := mem_allW.1 hw
    have key : ∀ j, j ≤ b.lines.length * 3 → numAt (rubL b [k]) j = -1 ∨ numAt (rubL b [k]) j = numAt w j := fun j hj => by
      by_cases cj : j < b.lines.length * 3
      · obtain ⟨m, e, _, _, he, hf⟩ := mem_allL.1 (hc.1.2 (j / 3) (by rw [hl]; omega))
        unfold fitL fitsB at hf
        simp only [Bool.and_eq_true, Bool.or_eq_true, beq_iff_eq] at hf
        obtain ⟨f0, f1, f2⟩ := hf
        rw [numAt_lt (by rw [hl]; exact cj), numAt_lt (by rw [wl]; exact cj)]
        rcases (by omega : j % 3 = 0 ∨ j % 3 = 1 ∨ j % 3 = 2) with h3 | h3 | h3 <;> rw [h3] <;> simp [fldL] <;> assumption
      · obtain rfl : j = b.lines.length * 3 := by omega
        have e1 := numAt_end (rubL b [k])
        have e2 := numAt_end w
        rw [hl] at e1
        rw [wl] at e2
        rw [e1, e2]
        exact hc.2.2
    have ew : setN b k (numAt w k) = w := bl_ext (by rw [setN_len]; exact wl.symm) fun j hj => by
      rw [wl] at hj
      rw [numAt_set hk hj]
      by_cases c : j = k
      · rw [if_pos c, c]
      · rw [if_neg c]
        have h1 := key j hj
        rw [rub_num hinc hj, if_neg (by simpa using c)] at h1
        have := h.num j hj
        omega
    refine ⟨numAt w k, ?_, by rw [ew]; exact way_right hw⟩
    have hb := way_bd (by rw [hl]; exact h.len) hw k (by rw [hl]; exact hk)
    refine ⟨hb.1, ?_⟩
    by_cases ck : k < b.lines.length * 3
    · obtain ⟨m, e, hm, he2, he, hf⟩ := mem_allL.1 (hc.1.2 (k / 3) (by rw [hl]; omega))
      have hme := mul_bound (a := (m : Int)) (b := (e : Int)) (m := 50) (k := 50) (by omega) (by omega)
      rw [numAt_lt (by rw [wl]; exact ck), mostAt_lt ck, he]
      rcases (by omega : k % 3 = 0 ∨ k % 3 = 1 ∨ k % 3 = 2) with h3 | h3 | h3 <;> rw [h3] <;> simp [fldL, cand] <;> omega
    · obtain rfl : k = b.lines.length * 3 := by omega
      rw [mostAt_end]
      exact hb.2
  · rintro ⟨c, hc, hf⟩
    have ha := aok_set h hk hc
    refine pos_ways.2 (List.ne_nil_of_mem (right_way ha hf (by rw [setN_len, hl]) fun j hj => ?_))
    rw [hl] at hj
    rw [rub_num hinc hj, numAt_set hk hj]
    by_cases cj : j = k
    · left; rw [if_pos (by simp [cj])]
    · right; rw [if_neg (by simpa using cj), if_neg cj]
end Go.Proofs.Ytpnmbpbcgifkeaa.Ab.T12
namespace Go.Proofs.Ytpnmbpbcgifkeaa.Ab.T12
open Go Go.RowKit
set_option linter.unusedVariables false
set_option linter.unusedSimpArgs false
set_option maxRecDepth 100000
theorem goodN_iff {b : Bl} {i : Nat} {c : Int} : goodN b i c = true ↔ c ≠ numAt b i ∧ faultL (setN b i c) = [] := by
  unfold goodN
  simp
/-- Slips as places and numbers, ascending. -/
def SlLt (x y : Nat × Nat) : Prop := x.1 < y.1 ∨ (x.1 = y.1 ∧ x.2 < y.2)
def slP (b : Bl) (i : Nat) : List (Nat × Nat) := (List.range i).flatMap fun j => ((List.range (mostAt b.lines.length j + 1)).filter fun c : Nat => goodN b j c).map fun c => (j, c)
theorem slP_map (b : Bl) (i : Nat) : slipsT b i = (slP b i).map fun p => (markAt b.lines.length p.1, (p.2 : Int)) := by
  unfold slipsT slP slipsN
  rw [List.map_flatMap]
  congr 1
  funext j
  rw [List.map_map]
  rfl
theorem range_pw : ∀ n, (List.range n).Pairwise (· < ·)
  | 0 => by simp
  | n + 1 => by
    rw [List.range_succ, List.pairwise_append]
    exact ⟨range_pw n, by simp, fun a ha c hc => by
      rw [List.mem_singleton.1 hc]; exact List.mem_range.1 ha⟩
theorem slP_pw (b : Bl) : ∀ i, (slP b i).Pairwise SlLt
  | 0 => by simp [slP]
  | i + 1 => by
    have e : slP b (i + 1) = slP b i ++ ((List.range (mostAt b.lines.length i + 1)).filter fun c : Nat => goodN b i c).map fun c => (i, c) := by
      unfold slP
      rw [List.range_succ, List.flatMap_append, List.flatMap_cons, List.flatMap_nil, List.append_nil]
    rw [e, List.pairwise_append]
    refine ⟨slP_pw b i, ?_, fun x hx y hy => ?_⟩
    · rw [List.pairwise_map]
      exact ((range_pw _).filter _).imp fun h => .inr ⟨rfl, h⟩
    · unfold slP at hx
      obtain ⟨j, hj, hx⟩ := List.mem_flatMap.1 hx
      obtain ⟨c, _, rfl⟩ := List.mem_map.1 hx
      obtain ⟨d, _, rfl⟩ := List.mem_map.1 hy
      exact .inl (List.mem_range.1 hj)
end Go.Proofs.Ytpnmbpbcgifkeaa.Ab.T12
namespace Go.Proofs.Ytpnmbpbcgifkeaa.Ab.T12
open Go Go.RowKit
set_option linter.unusedVariables false
set_option linter.unusedSimpArgs false
set_option maxRecDepth 100000
def slA (b : Bl) : List (Nat × Nat) := slP b (b.lines.length * 3 + 1)
theorem slips_all (b : Bl) : slipsL b = (slA b).map fun p => (markAt b.lines.length p.1, (p.2 : Int)) := slP_map b _
theorem mem_slA {b : Bl} {p : Nat × Nat} : p ∈ slA b ↔ p.1 ≤ b.lines.length * 3 ∧ p.2 ≤ mostAt b.lines.length p.1 ∧ ((p.2 : Int) ≠ numAt b p.1 ∧ faultL (setN b p.1 p.2) = []) := by
  unfold slA slP
  rw [List.mem_flatMap]
  constructor
  · rintro ⟨j, hj, h⟩
    obtain ⟨c, hc, rfl⟩ := List.mem_map.1 h
    obtain ⟨h1, h2⟩ := List.mem_filter.1 hc
    have := List.mem_range.1 hj
    have := List.mem_range.1 h1
    exact ⟨by simp only; omega, by simp only; omega, goodN_iff.1 h2⟩
  · obtain ⟨j, c⟩ := p
    rintro ⟨h1, h2, h3⟩
    simp only at h1 h2 h3
    exact ⟨j, List.mem_range.2 (by omega), List.mem_map.2 ⟨c, List.mem_filter.2 ⟨List.mem_range.2 (by omega), goodN_iff.2 h3⟩, rfl⟩⟩
theorem slip_pos {b : Bl} (h : AOk b) (hf : faultL b ≠ []) {k : Nat} (hk : k ≤ b.lines.length * 3) : posP (rubL b [k]) ↔ ∃ c : Nat, (k, c) ∈ slA b := by
  rw [one_slip h hk]
  constructor
  · rintro ⟨c, hc, he⟩
    refine ⟨c.toNat, mem_slA.2 ⟨hk, by simp only; omega, ?_, ?_⟩⟩
    · intro hn
      simp only at hn
      rw [show ((c.toNat : Nat) : Int) = c by omega] at hn
      rw [hn, setN_self hk] at he
      exact hf he
    · simp only
      rw [show ((c.toNat : Nat) : Int) = c by omega]
      exact he
  · rintro ⟨c, hc⟩
    obtain ⟨_, h2, _, h4⟩ := mem_slA.1 hc
    simp only at h2 h4
    exact ⟨c, by omega, h4⟩
/-- Change names the first slip's number. -/
theorem change_first {b : Bl} (h : AOk b) (hf : faultL b ≠ []) {p : Nat × Nat} {r : List (Nat × Nat)} (hs : slA b = p :: r) : chgErr b = 0 ∧ chgR b = [markAt b.lines.length p.1] := by
  obtain ⟨L, hb, he, hc, _⟩ := fewest_is h hf
  have hp := (mem_slA.1 (show p ∈ slA b by rw [hs]; simp))
  have hpp : posP (rubL b [p.1]) := (slip_pos h hf hp.1).2 ⟨p.2, by rw [hs]; simp⟩
  have hinc : Inc 0 (b.lines.length * 3 + 1) [p.1] := ⟨by omega, by omega, trivial⟩
  have hmin := hb.2.2 _ hinc hpp
  have hne : L ≠ [] := good_some ⟨h.ok, h.blots, hf⟩ hb.2.1
  have hlen := List.length_pos_iff.2 hne
  simp only [List.length_cons, List.length_nil] at hmin
  obtain ⟨k, hk⟩ : ∃ k, L = [k] := by
    match L, hne, hmin with
    | [k], _, _ => exact ⟨k, rfl⟩
    | k :: m :: L, _, hm => simp at hm
  subst hk
  have hk1 := hb.1.2.1
  obtain ⟨c, hcm⟩ := (slip_pos h hf (by omega)).1 hb.2.1
  have hle : p.1 ≤ k := by
    have hpw := slP_pw b (b.lines.length * 3 + 1)
    rw [show slP b (b.lines.length * 3 + 1) = p :: r from hs, List.pairwise_cons] at hpw
    rw [hs] at hcm
    rcases List.mem_cons.1 hcm with hcm | hcm
    · rw [← hcm]; exact Nat.le_refl _
    · rcases hpw.1 _ hcm with h1 | h1
      · have : p.1 < k := h1
        omega
      · have : p.1 = k := h1.1
        omega
  have hge : k ≤ p.1 := by
    rcases hmin with hm | ⟨_, hm⟩
    · omega
    · rcases hm with hm | hm
      · omega
      · omega
  have : k = p.1 := by omega
  subst this
  exact ⟨he, hc⟩
/-- The way back is a slip. -/
theorem way_back {b0 : Bl} (h0 : AOk b0) (hr : faultL b0 = []) {i : Nat} {v : Int} (hi : i ≤ b0.lines.length * 3) (hf : faultL (setN b0 i v) ≠ []) : (i, (numAt b0 i).toNat) ∈ slA (setN b0 i v) := by
  have hn := h0.num i hi
  have e : (((numAt b0 i).toNat : Nat) : Int) = numAt b0 i := by omega
  have hl := setN_len b0 i v
  have es : setN (setN b0 i v) i (numAt b0 i) = b0 := bl_ext (by rw [setN_len, hl]) fun j hj => by
    rw [numAt_set (by rw [hl]; exact hi) (by rw [hl]; exact hj), numAt_set hi hj]
    by_cases c : j = i
    · rw [if_pos c, c]
    · rw [if_neg c, if_neg c]
  refine mem_slA.2 ⟨by simp only; rw [hl]; exact hi, by simp only; rw [hl]; omega, ?_, ?_⟩
  · simp only
    rw [e, numAt_set hi hi, if_pos rfl]
    intro hv
    rw [← hv, setN_self hi] at hf
    exact hf hr
  · simp only
    rw [e, es]
    exact hr
end Go.Proofs.Ytpnmbpbcgifkeaa.Ab.T12
