/- What unread numbers of a right bill can be: plain. -/
import Derived.Test.YtpnmbpbcgifkeaaZN5
namespace Go.Proofs.Ytpnmbpbcgifkeaa.Ab.T12
open Go Go.RowKit
set_option linter.unusedVariables false
set_option linter.unusedSimpArgs false
set_option maxRecDepth 100000
def trK (n : Nat) (v : Int) : Nat := (v % ((n * 3 + 1 : Nat) : Int)).toNat
def trB (b : Bl) (ks : List Int) : Nat → Bl
  | 0 => b
  | i + 1 => setN (trB b ks i) (trK b.lines.length (nth ks i)) (-1)
def trH (n : Nat) (ks : List Int) : Nat → List Bool
  | 0 => List.replicate (n * 3 + 1) false
  | i + 1 => (trH n ks i).set (trK n (nth ks i)) true
theorem trK_le (n : Nat) (v : Int) : ((trK n v : Nat) : Int) = v % ((n * 3 + 1 : Nat) : Int) ∧ trK n v ≤ n * 3 := by
  have h1 := Int.emod_nonneg v (show ((n * 3 + 1 : Nat) : Int) ≠ 0 by omega)
  have h2 := Int.emod_lt_of_pos v (show (0 : Int) < ((n * 3 + 1 : Nat) : Int) by omega)
  unfold trK
  omega
theorem trB_len (b : Bl) (ks : List Int) : ∀ i, (trB b ks i).lines.length = b.lines.length
  | 0 => rfl
  | i + 1 => by rw [trB, setN_len, trB_len b ks i]
theorem trH_len (n : Nat) (ks : List Int) : ∀ i, (trH n ks i).length = n * 3 + 1
  | 0 => List.length_replicate
  | i + 1 => by rw [trH, List.length_set, trH_len n ks i]
theorem nth_rep (n : Nat) (j : Nat) : nth (List.replicate n false) j = false := by
  show (List.replicate n false).getD j default = false
  rw [List.getD_eq_getElem?_getD, List.getElem?_replicate]
  split <;> rfl
theorem nth_setT {l : List Bool} {q j : Nat} (hq : q < l.length) : nth (l.set q true) j = if j = q then true else nth l j := by
  by_cases c : j = q
  · rw [if_pos c, c]
    show (l.set q true).getD q default = true
    rw [List.getD_eq_getElem?_getD, List.getElem?_set_self hq]
    rfl
  · rw [if_neg c]
    show (l.set q true).getD j default = l.getD j default
    rw [List.getD_eq_getElem?_getD, List.getD_eq_getElem?_getD, List.getElem?_set_ne (by omega)]
theorem trB_num (b : Bl) (ks : List Int) {j : Nat} (hj : j ≤ b.lines.length * 3) : ∀ i, numAt (trB b ks i) j = if nth (trH b.lines.length ks i) j = true then -1 else numAt b j
  | 0 => by
    rw [trB, trH, nth_rep]
    rfl
  | i + 1 => by
    have ih := trB_num b ks hj i
    have hl := trB_len b ks i
    have hk := (trK_le b.lines.length (nth ks i)).2
    rw [trB, trH, numAt_set (by rw [hl]; exact hk) (by rw [hl]; exact hj), nth_setT (by rw [trH_len]; omega), ih]
    by_cases c : j = trK b.lines.length (nth ks i)
    · rw [if_pos c, if_pos c]; rfl
    · rw [if_neg c, if_neg c]
theorem filter_more {p q : Nat → Bool} {K : Nat} (h : ∀ j, q j = true → p j = true ∨ j = K) : ∀ N, ((List.range N).filter q).length ≤ ((List.range N).filter p).length + if K < N then 1 else 0
  | 0 => by simp
  | N + 1 => by
    have ih := filter_more h N
    rw [List.range_succ, List.filter_append, List.filter_append, List.length_append, List.length_append]
    have e1 : ([N].filter q).length = if q N = true then 1 else 0 := by cases hq : q N <;> simp [List.filter, hq]
    have e2 : ([N].filter p).length = if p N = true then 1 else 0 := by cases hp : p N <;> simp [List.filter, hp]
    rw [e1, e2]
    have := h N
    by_cases c : N = K
    · rw [if_neg (show ¬ K < N by omega)] at ih
      rw [if_pos (show K < N + 1 by omega)]
      split <;> split <;> omega
    · have e3 : (if K < N then 1 else 0 : Nat) = if K < N + 1 then 1 else 0 := by
        by_cases c2 : K < N
        · rw [if_pos c2, if_pos (by omega)]
        · rw [if_neg c2, if_neg (by omega)]
      rw [← e3]
      by_cases hq : q N = true
      · rcases this hq with h1 | h1
        · rw [if_pos hq, if_pos h1]; omega
        · exact absurd h1 c
      · rw [if_neg hq]; omega
def hidL (H : List Bool) (i : Nat) : List Nat := (List.range i).filter fun j => nth H j
theorem hid_succ (H : List Bool) (i : Nat) : hidL H (i + 1) = hidL H i ++ if nth H i = true then [i] else [] := by
  unfold hidL
  rw [List.range_succ, List.filter_append]
  congr 1
  cases h : nth H i <;> simp [List.filter, h]
theorem hid_inc (H : List Bool) : ∀ N, Inc 0 N (hidL H N)
  | 0 => trivial
  | N + 1 => by
    rw [hid_succ]
    split
    · exact inc_app (hid_inc H N) (Nat.le_refl _) (Nat.zero_le _)
    · rw [List.append_nil]; exact (hid_inc H N).wide (by omega)
theorem hid_few (n : Nat) (ks : List Int) (N : Nat) : ∀ i, (hidL (trH n ks i) N).length ≤ i
  | 0 => by
    have e : hidL (trH n ks 0) N = [] := by
      unfold hidL
      rw [List.filter_eq_nil_iff]
      intro j _
      rw [trH, nth_rep]
      simp
    rw [e]
    exact Nat.le_refl _
  | i + 1 => by
    have ih := hid_few n ks N i
    have hk := (trK_le n (nth ks i)).2
    have := filter_more (p := fun j => nth (trH n ks i) j) (q := fun j => nth (trH n ks (i + 1)) j) (K := trK n (nth ks i)) (fun j hj => by
      have hj : nth (trH n ks (i + 1)) j = true := hj
      show nth (trH n ks i) j = true ∨ _
      rw [trH, nth_setT (by rw [trH_len]; omega)] at hj
      by_cases c : j = trK n (nth ks i)
      · exact .inr c
      · rw [if_neg c] at hj; exact .inl hj) N
    unfold hidL at ih ⊢
    split at this <;> omega
theorem hid_mem {H : List Bool} {i j : Nat} : j ∈ hidL H i ↔ j < i ∧ nth H j = true := by
  unfold hidL
  rw [List.mem_filter, List.mem_range]
theorem tr_rub (b : Bl) (ks : List Int) (i : Nat) : trB b ks i = rubL b (hidL (trH b.lines.length ks i) (b.lines.length * 3 + 1)) := by
  have hinc := hid_inc (trH b.lines.length ks i) (b.lines.length * 3 + 1)
  refine bl_ext (by rw [rubL_len, trB_len]) fun j hj => ?_
  rw [rubL_len] at hj
  rw [trB_num b ks hj, rub_num hinc hj]
  by_cases c : nth (trH b.lines.length ks i) j = true
  · rw [if_pos c, if_pos (hid_mem.2 ⟨by omega, c⟩)]
  · rw [if_neg c, if_neg (fun h => c (hid_mem.1 h).2)]
/-- The places before i that are hidden, and the one at i. -/
theorem hid_at {H : List Bool} {i : Nat} (h : nth H i = true) : ∀ {N}, i < N → (hidL H i).length < (hidL H N).length ∧ nth (hidL H N) (hidL H i).length = i
  | 0, hN => by omega
  | N + 1, hN => by
    rw [hid_succ]
    by_cases c : i = N
    · subst c
      rw [if_pos h]
      exact ⟨by rw [List.length_append]; simp, nth_app_end _ _⟩
    · obtain ⟨h1, h2⟩ := hid_at h (N := N) (by omega)
      exact ⟨by rw [List.length_append]; omega, by rw [nth_app_lt h1]; exact h2⟩
theorem hid_len {H : List Bool} {i : Nat} : (hidL H (i + 1)).length = (hidL H i).length + if nth H i = true then 1 else 0 := by
  rw [hid_succ, List.length_append]
  split <;> rfl
theorem way_most {b w : Bl} (hl : b.lines.length ≤ 5) (hw : w ∈ allW b) {k : Nat} (hk : k ≤ b.lines.length * 3) : 0 ≤ numAt w k ∧ numAt w k ≤ mostAt b.lines.length k := by
  have hc := mem_allW.1 hw
  have wl := way_len hw
  have hb := way_bd hl hw k hk
  refine ⟨hb.1, ?_⟩
  by_cases ck : k < b.lines.length * 3
  · obtain ⟨m, e, hm, he2, he, hf⟩ := mem_allL.1 (hc.1.2 (k / 3) (by omega))
    have hme := mul_bound (a := (m : Int)) (b := (e : Int)) (m := 50) (k := 50) (by omega) (by omega)
    rw [numAt_lt (by rw [wl]; exact ck), mostAt_lt ck, he]
    rcases (by omega : k % 3 = 0 ∨ k % 3 = 1 ∨ k % 3 = 2) with h3 | h3 | h3 <;> rw [h3] <;> simp [fldL, cand] <;> omega
  · obtain rfl : k = b.lines.length * 3 := by omega
    rw [mostAt_end]
    exact hb.2
theorem way_ok {b w : Bl} (hl : b.lines.length ≤ 5) (hw : w ∈ allW b) : AOk w := by
  have wl := way_len hw
  exact ⟨by omega, fun j hj => by rw [wl] at hj ⊢; exact way_most hl hw hj⟩
theorem way_num {b w : Bl} (hw : w ∈ allW b) {j : Nat} (hj : j ≤ b.lines.length * 3) : numAt b j = -1 ∨ numAt b j = numAt w j := by
  have hc := mem_allW.1 hw
  have wl := way_len hw
  by_cases cj : j < b.lines.length * 3
  · obtain ⟨m, e, _, _, he, hf⟩ := mem_allL.1 (hc.1.2 (j / 3) (by omega))
    unfold fitL fitsB at hf
    simp only [Bool.and_eq_true, Bool.or_eq_true, beq_iff_eq] at hf
    obtain ⟨f0, f1, f2⟩ := hf
    rw [numAt_lt cj, numAt_lt (by rw [wl]; exact cj)]
    rcases (by omega : j % 3 = 0 ∨ j % 3 = 1 ∨ j % 3 = 2) with h3 | h3 | h3 <;> rw [h3] <;> simp [fldL] <;> assumption
  · obtain rfl : j = b.lines.length * 3 := by omega
    have e1 := numAt_end b
    have e2 := numAt_end w
    rw [wl] at e2
    rw [e1, e2]
    exact hc.2.2
end Go.Proofs.Ytpnmbpbcgifkeaa.Ab.T12
