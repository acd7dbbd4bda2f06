/- The reference: numbers between two others, spans, and at which heights an edge can be. The reference: at which heights an edge can be. The reference: what an edge can be in all truths. What an edge can be by the reference is what the program says: plain. -/
import Derived.Test.YtnalabgckndhoaaZR1
namespace Go.Proofs.Ytnalabgckndhoaa.Ab.T01
open Go Go.RowKit
set_option linter.unusedVariables false
set_option linter.unusedSimpArgs false
set_option maxRecDepth 100000
/-- Can an edge be at this height, by the columns before it alone? -/
def reachB (l : List Sp) (bend : Int) : Nat → Int → Bool
  | 0, h => decide ((nth l 0).1 ≤ h) && decide (h ≤ (nth l 0).2)
  | i + 1, h => decide ((nth l (i + 1)).1 ≤ h) && decide (h ≤ (nth l (i + 1)).2) && (List.range 301).any fun k : Nat => decide (h - bend ≤ (k : Int)) && decide ((k : Int) ≤ h + bend) && reachB l bend i k
def bR (b : Bool) : List DV := [.v (.bool b)]
def rowB (f : Int → Bool) : List Bool := (List.range 301).map fun h : Nat => f h
theorem rowB_length (f : Int → Bool) : (rowB f).length = 301 := by simp [rowB]
theorem rowB_nth {f : Int → Bool} {h : Nat} (hh : h < 301) : nth (rowB f) h = f h := nth_range hh
theorem rowB_set {f : Int → Bool} {h : Nat} {b : Bool} (hh : h < 301) : (rowB f).set h b = rowB fun x => if x = (h : Int) then b else f x := by
  refine list_ext (by simp [rowB]) fun k hk => ?_
  have hk' : k < 301 := by simpa [rowB] using hk
  rw [nth_set _ _ _ _ (by rw [rowB_length]; exact hk'), rowB_nth hk', rowB_nth hk']
  by_cases e : h = k
  · subst e; rw [if_pos rfl, if_pos rfl]
  · rw [if_neg e, if_neg (by omega)]
theorem rowB_congr {f g : Int → Bool} (h : ∀ x : Nat, x < 301 → f x = g x) : rowB f = rowB g := by
  refine list_ext (by simp [rowB]) fun k hk => ?_
  have hk' : k < 301 := by simpa [rowB] using hk
  rw [rowB_nth hk', rowB_nth hk', h k hk']
/-- A row of marks. -/
def rowR (f : Int → Bool) : List DV := [.sl 1 ((rowB f).map bR)]
def reachR (l : List Sp) (bend : Int) (i : Nat) : List DV := rowR (reachB l bend i)
/-- What is known of a height when all heights from k on beside the column before are still to be looked at. -/
def partB (g : Int → Bool) (lo : Int) (k : Int) : Bool := (List.range 301).any fun j : Nat => decide (lo ≤ (j : Int)) && decide ((j : Int) < k) && g j
theorem partB_start (g : Int → Bool) (lo : Int) {k : Int} (h : k ≤ lo ∨ k ≤ 0) : partB g lo k = false := by
  unfold partB
  rw [List.any_eq_false]
  intro j _
  simp
  omega
theorem partB_step (g : Int → Bool) (lo : Int) {k : Nat} (hk : k < 301) (h : lo ≤ k) : partB g lo ((k : Int) + 1) = (partB g lo k || g k) := by
  rw [Bool.eq_iff_iff]
  unfold partB
  simp only [Bool.or_eq_true, List.any_eq_true, Bool.and_eq_true, decide_eq_true_eq, List.mem_range]
  constructor
  · rintro ⟨j, h1, ⟨h2, h3⟩, h4⟩
    by_cases e : j = k
    · subst e; exact .inr h4
    · exact .inl ⟨j, h1, ⟨h2, by omega⟩, h4⟩
  · rintro (⟨j, h1, ⟨h2, h3⟩, h4⟩ | h4)
    · exact ⟨j, h1, ⟨h2, by omega⟩, h4⟩
    · exact ⟨k, hk, ⟨h, by omega⟩, h4⟩
theorem reachB_part {l : List Sp} {bend : Int} {i : Nat} {h k : Int} (h1 : (nth l (i + 1)).1 ≤ h) (h2 : h ≤ (nth l (i + 1)).2) (hk : k = min 300 (h + bend) + 1) : reachB l bend (i + 1) h = partB (reachB l bend i) (max 0 (h - bend)) k := by
  rw [reachB, decide_eq_true h1, decide_eq_true h2]
  rw [Bool.eq_iff_iff]
  unfold partB
  simp only [Bool.true_and, Bool.and_self, List.any_eq_true, Bool.and_eq_true, decide_eq_true_eq, List.mem_range]
  constructor
  · rintro ⟨j, h1, ⟨h2, h3⟩, h4⟩
    exact ⟨j, h1, ⟨by omega, by omega⟩, h4⟩
  · rintro ⟨j, h1, ⟨h2, h3⟩, h4⟩
    exact ⟨j, h1, ⟨by omega, by omega⟩, h4⟩
theorem reachB_out {l : List Sp} {bend : Int} {i : Nat} {h : Int} (h1 : h < (nth l i).1 ∨ (nth l i).2 < h) : reachB l bend i h = false := by
  cases i with
  | zero =>
    rw [reachB]
    rcases h1 with h1 | h1
    · rw [decide_eq_false (show ¬ (nth l 0).1 ≤ h by omega)]; rfl
    · rw [decide_eq_false (show ¬ h ≤ (nth l 0).2 by omega)]; simp
  | succ i =>
    rw [reachB]
    rcases h1 with h1 | h1
    · rw [decide_eq_false (show ¬ (nth l (i + 1)).1 ≤ h by omega)]; rfl
    · rw [decide_eq_false (show ¬ h ≤ (nth l (i + 1)).2 by omega)]; simp
end Go.Proofs.Ytnalabgckndhoaa.Ab.T01
namespace Go.Proofs.Ytnalabgckndhoaa.Ab.T01
open Go Go.RowKit
set_option linter.unusedSimpArgs false
set_option linter.unusedVariables false
set_option maxRecDepth 100000
theorem set_bR (L : List Bool) (i : Nat) (b : Bool) (h : i < L.length) : (L.map bR).set i (put ((L.map bR).getD i []) 0 [.v (.bool b)]) = (L.set i b).map bR := by
  rw [nth_map bR L i h, List.map_set]
  rfl
theorem rep_bR (n : Nat) (h : n = 301) : List.replicate n [DV.v (.bool false)] = (rowB fun _ => false).map bR := by
  subst h
  rw [List.eq_replicate_iff.2 ⟨rowB_length _, fun b hb => ?_⟩, List.map_replicate]
  · rfl
  · obtain ⟨k, _, rfl⟩ := List.mem_map.1 hb
    rfl
/-- What is known of a height so far. -/
def valB (l : List Sp) (bend : Int) (i : Nat) (h k : Int) : Bool := if i = 0 then true else partB (reachB l bend (i - 1)) (max 0 (h - bend)) k
end Go.Proofs.Ytnalabgckndhoaa.Ab.T01
namespace Go.Proofs.Ytnalabgckndhoaa.Ab.T01
open Go Go.RowKit
set_option linter.unusedSimpArgs false
set_option linter.unusedVariables false
set_option maxRecDepth 100000
/-- Some height beneath h; the first one, and the last one. -/
def scanB (g : Int → Bool) : Nat → Bool × Int × Int
  | 0 => (false, 0, 0)
  | h + 1 => if g h then (true, if (scanB g h).1 then (scanB g h).2.1 else h, h) else scanB g h
def bothB (l : List Sp) (bend : Int) (i : Nat) (h : Int) : Bool := reachB l bend i h && reachB l.reverse bend (l.length - 1 - i) h
def colR (l : List Sp) (bend : Int) (i : Nat) : Sp := (scanB (bothB l bend i) 301).2
def curveR (l : List Sp) (bend : Int) : List Sp := if ((List.range l.length).all fun i => (scanB (bothB l bend i) 301).1) = true then (List.range l.length).map (colR l bend) else []
theorem curveR_bad {l : List Sp} {bend : Int} {i : Nat} (hi : i < l.length) (h : (scanB (bothB l bend i) 301).1 = false) : curveR l bend = [] := by
  unfold curveR
  rw [if_neg]
  intro hc
  have := List.all_eq_true.1 hc i (List.mem_range.2 hi)
  rw [h] at this
  cases this
theorem curveR_good {l : List Sp} {bend : Int} (h : ∀ i, i < l.length → (scanB (bothB l bend i) 301).1 = true) : curveR l bend = (List.range l.length).map (colR l bend) := by
  unfold curveR
  rw [if_pos]
  exact List.all_eq_true.2 fun i hi => h i (List.mem_range.1 hi)
end Go.Proofs.Ytnalabgckndhoaa.Ab.T01
namespace Go.Proofs.Ytnalabgckndhoaa.Ab.T01
open Go Go.RowKit
set_option linter.unusedSimpArgs false
set_option linter.unusedVariables false
theorem pIter_hi (bend : Int) (L : List Sp) : ∀ (i k : Nat), i < k → k < L.length → nth (pIter bend L i) k = nth L k
  | 0, k, _, _ => rfl
  | i + 1, k, h, hk => by
    rw [pIter, nth_set _ _ _ _ (by rw [pIter_length]; exact hk), if_neg (by omega)]
    exact pIter_hi bend L i k (by omega) hk
theorem pIter_lo (bend : Int) (L : List Sp) (j : Nat) : ∀ (d : Nat), j < L.length → nth (pIter bend L (j + d)) j = nth (pIter bend L j) j
  | 0, _ => rfl
  | d + 1, h => by
    rw [← Nat.add_assoc, pIter, nth_set _ _ _ _ (by rw [pIter_length]; exact h), if_neg (by omega)]
    exact pIter_lo bend L j d h
/-- The span of a column as the pass goes over it. -/
def fwd (bend : Int) (L : List Sp) (j : Nat) : Sp := nth (pIter bend L j) j
theorem fwd_zero (bend : Int) (L : List Sp) : fwd bend L 0 = nth L 0 := rfl
theorem fwd_at {bend : Int} {L : List Sp} {j : Nat} : pAt bend (pIter bend L j) (j + 1) = meetS (nth (pIter bend L j) (j + 1)) ((fwd bend L j).1 - bend, (fwd bend L j).2 + bend) := rfl
theorem fwd_succ {bend : Int} {L : List Sp} {j : Nat} (h : j + 1 < L.length) : fwd bend L (j + 1) = meetS (nth L (j + 1)) ((fwd bend L j).1 - bend, (fwd bend L j).2 + bend) := by
  rw [← pIter_hi bend L j (j + 1) (by omega) h, ← fwd_at]
  unfold fwd
  rw [pIter, nth_set _ _ _ _ (by rw [pIter_length]; exact h), if_pos rfl]
theorem passOk_iff {bend : Int} {L : List Sp} : passOk bend L = true ↔ ∀ j, j + 1 < L.length → (fwd bend L (j + 1)).1 ≤ (fwd bend L (j + 1)).2 := by
  unfold passOk
  rw [List.all_eq_true]
  constructor
  · intro h j hj
    have := h j (List.mem_range.2 (by omega))
    rw [fwd_at, pIter_hi bend L j (j + 1) (by omega) hj, ← fwd_succ hj] at this
    simpa using this
  · intro h j hj
    have hj := List.mem_range.1 hj
    have := h j (by omega)
    rw [fwd_at, pIter_hi bend L j (j + 1) (by omega) (by omega), ← fwd_succ (by omega)]
    simpa using this
theorem pass_nth {bend : Int} {L : List Sp} {i : Nat} (h : i < L.length) : nth (pass bend L) i = fwd bend L (L.length - 1 - i) := by
  have e : nth (pass bend L) i = nth (pIter bend L (L.length - 1)) (L.length - 1 - i) := by
    unfold pass nth
    rw [List.getD_eq_getElem?_getD, List.getD_eq_getElem?_getD, List.getElem?_reverse (by rw [pIter_length]; exact h), pIter_length]
  rw [e]
  have := pIter_lo bend L (L.length - 1 - i) i (by omega)
  rw [show L.length - 1 - i + i = L.length - 1 by omega] at this
  exact this
theorem pass_length (bend : Int) (L : List Sp) : (pass bend L).length = L.length := by
  unfold pass
  rw [List.length_reverse, pIter_length]
/-- A span holds a height. -/
def inS (s : Sp) (h : Int) : Prop := s.1 ≤ h ∧ h ≤ s.2
theorem fwd_bound {bend : Int} {L : List Sp} (hok : Okl L) : ∀ {j : Nat}, j < L.length → 0 ≤ (fwd bend L j).1 ∧ (fwd bend L j).2 ≤ 300
  | 0, h => by
    have := hok _ (nth_mem h)
    rw [fwd_zero]
    omega
  | j + 1, h => by
    have := hok _ (nth_mem h)
    rw [fwd_succ h]
    constructor
    · show 0 ≤ max _ _; omega
    · show min _ _ ≤ 300; omega
theorem reach_mem {l : List Sp} {bend : Int} {j : Nat} {h : Int} (hr : reachB l bend j h = true) : inS (nth l j) h := by
  cases j with
  | zero => rw [reachB] at hr; simpa [inS] using hr
  | succ j =>
    rw [reachB] at hr
    simp only [Bool.and_eq_true, decide_eq_true_eq] at hr
    exact hr.1
theorem reach_succ {l : List Sp} {bend : Int} {j : Nat} {h : Int} : reachB l bend (j + 1) h = true ↔ inS (nth l (j + 1)) h ∧ ∃ k : Nat, k < 301 ∧ (h - bend ≤ (k : Int) ∧ (k : Int) ≤ h + bend) ∧ reachB l bend j k = true := by
  rw [reachB]
  simp only [Bool.and_eq_true, decide_eq_true_eq, List.any_eq_true, List.mem_range, inS]
theorem reach_fwd {bend : Int} {L : List Sp} (hok : Okl L) (hb : 0 ≤ bend) : ∀ {j : Nat}, j < L.length → (∀ i, i < j → (fwd bend L i).1 ≤ (fwd bend L i).2) → ∀ h : Int, reachB L bend j h = true ↔ inS (fwd bend L j) h
  | 0, _, _, h => by
    rw [reachB, fwd_zero]
    simp [inS]
  | j + 1, hj, hne, h => by
    have ih := reach_fwd hok hb (j := j) (by omega) (fun i hi => hne i (by omega))
    have hn := hne j (by omega)
    have hbd := fwd_bound (bend := bend) hok (j := j) (by omega)
    rw [reach_succ, fwd_succ hj]
    generalize fwd bend L j = F at *
    generalize nth L (j + 1) = S
    have e : inS (meetS S (F.1 - bend, F.2 + bend)) h ↔ inS S h ∧ F.1 - bend ≤ h ∧ h ≤ F.2 + bend := by
      unfold inS meetS
      simp only
      omega
    rw [e]
    constructor
    · rintro ⟨h1, k, hk, ⟨h2, h3⟩, h4⟩
      have h4 := (ih k).1 h4
      unfold inS at h4
      exact ⟨h1, by omega, by omega⟩
    · rintro ⟨h1, h2, h3⟩
      refine ⟨h1, (max F.1 (h - bend)).toNat, by omega, ⟨by omega, by omega⟩, (ih _).2 ?_⟩
      unfold inS
      omega
theorem rev_nth {L : List Sp} {j : Nat} (h : j < L.length) : nth L.reverse j = nth L (L.length - 1 - j) := by
  unfold nth
  rw [List.getD_eq_getElem?_getD, List.getD_eq_getElem?_getD, List.getElem?_reverse h]
theorem back_fwd {bend : Int} {L : List Sp} (hok : Okl L) (hb : 0 ≤ bend) (hp : passOk bend L = true) : ∀ {j : Nat}, j < L.length → (∀ i, i < j → (fwd bend (pass bend L) i).1 ≤ (fwd bend (pass bend L) i).2) → ∀ h : Int, (reachB L bend (L.length - 1 - j) h = true ∧ reachB L.reverse bend j h = true) ↔ inS (fwd bend (pass bend L) j) h
  | 0, hj, _, h => by
    have hF : ∀ i, i < L.length → (fwd bend L i).1 ≤ (fwd bend L i).2 := fun i hi => by
      cases i with
      | zero => have := hok _ (nth_mem hi); rw [fwd_zero]; omega
      | succ i => exact passOk_iff.1 hp i hi
    rw [fwd_zero, pass_nth hj]
    rw [reach_fwd hok hb (by omega) (fun i hi => hF i (by omega))]
    constructor
    · exact fun h => h.1
    · intro h1
      refine ⟨h1, ?_⟩
      have h2 := reach_mem ((reach_fwd hok hb (j := L.length - 1 - 0) (by omega) (fun i hi => hF i (by omega)) h).2 h1)
      rw [reachB, rev_nth hj]
      simpa [inS] using h2
  | j + 1, hj, hne, h => by
    have hF : ∀ i, i < L.length → (fwd bend L i).1 ≤ (fwd bend L i).2 := fun i hi => by
      cases i with
      | zero => have := hok _ (nth_mem hi); rw [fwd_zero]; omega
      | succ i => exact passOk_iff.1 hp i hi
    have ih := back_fwd hok hb hp (j := j) (by omega) (fun i hi => hne i (by omega))
    have hn := hne j (by omega)
    have hbd := fwd_bound (bend := bend) (L := pass bend L) (pass_ok hok hp).1 (j := j) (by rw [pass_length]; omega)
    have e0 : L.length - 1 - j = (L.length - 1 - (j + 1)) + 1 := by omega
    rw [fwd_succ (by rw [pass_length]; exact hj), pass_nth hj, reach_succ, rev_nth hj]
    have hrF := reach_fwd hok hb (j := L.length - 1 - (j + 1)) (by omega) (fun i hi => hF i (by omega)) h
    generalize fwd bend (pass bend L) j = G at *
    have e : inS (meetS (fwd bend L (L.length - 1 - (j + 1))) (G.1 - bend, G.2 + bend)) h ↔ inS (fwd bend L (L.length - 1 - (j + 1))) h ∧ G.1 - bend ≤ h ∧ h ≤ G.2 + bend := by
      unfold inS meetS
      simp only
      omega
    rw [e]
    constructor
    · rintro ⟨h1, h2, k, hk, ⟨h3, h4⟩, h5⟩
      have hk2 : reachB L bend (L.length - 1 - j) k = true := by
        rw [e0, reach_succ, ← e0]
        have hh := reach_mem h1
        have hb2 := hok _ (nth_mem (l := L) (i := L.length - 1 - (j + 1)) (by omega))
        unfold inS at hh
        refine ⟨?_, h.toNat, by omega, ⟨by omega, by omega⟩, by rw [show ((h.toNat : Nat) : Int) = h by omega]; exact h1⟩
        have := reach_mem h5
        rw [rev_nth (by omega)] at this
        exact this
      have := (ih k).1 ⟨hk2, h5⟩
      unfold inS at this
      exact ⟨hrF.1 h1, by omega, by omega⟩
    · rintro ⟨h1, h2, h3⟩
      have h4 := (ih (max G.1 (h - bend))).2 (by unfold inS; omega)
      refine ⟨hrF.2 h1, reach_mem (hrF.2 h1), (max G.1 (h - bend)).toNat, by omega, ⟨by omega, by omega⟩, ?_⟩
      rw [show (((max G.1 (h - bend)).toNat : Nat) : Int) = max G.1 (h - bend) by omega]
      exact h4.2
theorem scanB_none {g : Int → Bool} : ∀ {n : Nat}, (∀ h : Nat, h < n → g h = false) → scanB g n = (false, 0, 0)
  | 0, _ => rfl
  | n + 1, h => by
    rw [scanB, if_neg (by rw [h n (by omega)]; simp)]
    exact scanB_none fun k hk => h k (by omega)
theorem scanB_some {g : Int → Bool} {a b : Nat} (hg : ∀ h : Nat, g h = true ↔ a ≤ h ∧ h ≤ b) : ∀ {n : Nat}, a < n → a ≤ b → scanB g n = (true, (a : Int), ((min b (n - 1) : Nat) : Int))
  | 0, h, _ => by omega
  | n + 1, h, hab => by
    rw [scanB]
    by_cases h1 : n = a
    · have hn : scanB g n = (false, 0, 0) := scanB_none fun k hk => by
        cases hgk : g k with
        | false => rfl
        | true => have := (hg k).1 hgk; omega
      rw [if_pos ((hg n).2 (by omega)), hn]
      simp
      omega
    · have ih := scanB_some hg (n := n) (by omega) hab
      rw [ih]
      by_cases h2 : n ≤ b
      · rw [if_pos ((hg n).2 (by omega))]
        simp
        omega
      · rw [if_neg (by rw [hg n]; omega)]
        simp
        omega
theorem fwd_first {bend : Int} {L : List Sp} (hok : Okl L) : ∀ {m : Nat}, m < L.length → ¬ (∀ j, j < m → (fwd bend L (j + 1)).1 ≤ (fwd bend L (j + 1)).2) → ∃ j, j < L.length ∧ (∀ i, i < j → (fwd bend L i).1 ≤ (fwd bend L i).2) ∧ (fwd bend L j).2 < (fwd bend L j).1
  | 0, _, h => (h fun j hj => by omega).elim
  | m + 1, hm, h => by
    by_cases h1 : ∀ j, j < m → (fwd bend L (j + 1)).1 ≤ (fwd bend L (j + 1)).2
    · refine ⟨m + 1, hm, fun i hi => ?_, ?_⟩
      · cases i with
        | zero => have := hok _ (nth_mem (l := L) (i := 0) (by omega)); rw [fwd_zero]; omega
        | succ i => exact h1 i (by omega)
      · have : ¬ (fwd bend L (m + 1)).1 ≤ (fwd bend L (m + 1)).2 := fun hc => h fun j hj => by
          by_cases e : j = m
          · subst e; exact hc
          · exact h1 j (by omega)
        omega
    · exact fwd_first hok (by omega) h1
theorem curveR_eq {l : List Sp} {bend : Int} (hok : Okl l) (hb : 0 ≤ bend) : curveR l bend = (bentS bend l).getD [] := by
  by_cases hl : l.length = 0
  · have : l = [] := List.eq_nil_of_length_eq_zero hl
    subst this
    rfl
  have hempty : ∀ {i : Nat}, i < l.length → (∀ h : Nat, h < 301 → bothB l bend i h = false) → curveR l bend = [] := fun {i} hi h => curveR_bad hi (by rw [scanB_none h])
  by_cases hp : passOk bend l = true
  · have hok2 := (pass_ok hok hp).1
    by_cases hp2 : passOk bend (pass bend l) = true
    · have hb1 : bentS bend l = some (pass bend (pass bend l)) := by unfold bentS; rw [hp, hp2]; rfl
      rw [hb1, Option.getD_some]
      have hG : ∀ i, i < l.length → (fwd bend (pass bend l) i).1 ≤ (fwd bend (pass bend l) i).2 := fun i hi => by
        cases i with
        | zero => have := hok2 _ (nth_mem (l := pass bend l) (i := 0) (by rw [pass_length]; exact hi)); rw [fwd_zero]; omega
        | succ i => exact passOk_iff.1 hp2 i (by rw [pass_length]; exact hi)
      have key : ∀ i, i < l.length → scanB (bothB l bend i) 301 = (true, fwd bend (pass bend l) (l.length - 1 - i)) := fun i hi => by
        have hbf := back_fwd hok hb hp (j := l.length - 1 - i) (by omega) (fun k hk => hG k (by omega))
        have hbd := fwd_bound (bend := bend) hok2 (j := l.length - 1 - i) (by rw [pass_length]; omega)
        have hne := hG (l.length - 1 - i) (by omega)
        rw [show l.length - 1 - (l.length - 1 - i) = i by omega] at hbf
        generalize fwd bend (pass bend l) (l.length - 1 - i) = G at *
        have := scanB_some (g := bothB l bend i) (a := G.1.toNat) (b := G.2.toNat) (fun h => by
          have := hbf h
          unfold bothB
          rw [Bool.and_eq_true, this]
          unfold inS
          omega) (n := 301) (by omega) (by omega)
        rw [this]
        refine Prod.ext rfl (Prod.ext ?_ ?_)
        · show ((G.1.toNat : Nat) : Int) = G.1; omega
        · show ((min G.2.toNat (301 - 1) : Nat) : Int) = G.2; omega
      rw [curveR_good fun i hi => by rw [key i hi]]
      refine list_ext (by rw [List.length_map, List.length_range, pass_length, pass_length]) fun i hi => ?_
      have hi : i < l.length := by simpa using hi
      rw [nth_range hi, pass_nth (by rw [pass_length]; exact hi), pass_length]
      unfold colR
      rw [key i hi]
    · have hb1 : bentS bend l = none := by
        unfold bentS
        rw [if_neg]
        simp [hp2]
      rw [hb1, Option.getD_none]
      obtain ⟨j, hj, h1, h2⟩ := fwd_first (bend := bend) hok2 (m := l.length - 1) (by rw [pass_length]; omega) (fun h => hp2 (passOk_iff.2 fun j hj => h j (by rw [pass_length] at hj; omega)))
      rw [pass_length] at hj
      refine hempty (i := l.length - 1 - j) (by omega) fun h _ => ?_
      have := back_fwd hok hb hp (j := j) hj h1 h
      unfold bothB
      rw [show l.length - 1 - (l.length - 1 - j) = j by omega, Bool.and_eq_false_iff]
      by_cases h3 : reachB l bend (l.length - 1 - j) h = true ∧ reachB l.reverse bend j h = true
      · have := this.1 h3
        unfold inS at this
        omega
      · rcases Classical.em (reachB l bend (l.length - 1 - j) h = true) with h4 | h4
        · right
          simpa using fun h5 => h3 ⟨h4, h5⟩
        · left
          simpa using h4
  · have hb1 : bentS bend l = none := by
      unfold bentS
      rw [if_neg]
      simp [hp]
    rw [hb1, Option.getD_none]
    obtain ⟨j, hj, h1, h2⟩ := fwd_first (bend := bend) hok (m := l.length - 1) (by omega) (fun h => hp (passOk_iff.2 fun j hj => h j (by omega)))
    refine hempty hj fun h _ => ?_
    have := reach_fwd hok hb hj h1 h
    unfold bothB
    have h3 : reachB l bend j h = false := by
      cases hr : reachB l bend j h with
      | false => rfl
      | true =>
        have := this.1 hr
        unfold inS at this
        omega
    rw [h3]
    rfl
end Go.Proofs.Ytnalabgckndhoaa.Ab.T01
