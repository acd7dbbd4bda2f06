/- The plain law OutworkFree: what the counts can be, and which entries are wrong. -/
import Derived.Test.YtninkfpeeemcoaaZSB
namespace Go.Proofs.Ytninkfpeeemcoaa.Ab.T07
open Go Go.RowKit
set_option linter.unusedVariables false
set_option linter.unusedSimpArgs false
set_option maxRecDepth 100000
theorem setC_at {b : List En} {i : Nat} (hi : i < b.length) (n : Int) : nth (setC b i n) i = { nth b i with c := n } := by rw [setC_nth hi, if_pos rfl]
theorem setC_id {b : List En} {i : Nat} (hi : i < b.length) : setC b i (nth b i).c = b := by
  unfold setC nth
  have : ({ (b.getD i default) with c := (b.getD i default).c } : En) = b[i] := by simp [List.getD_eq_getElem?_getD, hi]
  rw [this]
  exact List.set_getElem_self hi
theorem setC_setC {b : List En} {i : Nat} (hi : i < b.length) (n m : Int) : setC (setC b i n) i m = setC b i m := by
  have e : ({ nth (setC b i n) i with c := m } : En) = { nth b i with c := m } := by rw [setC_at hi]
  show (setC b i n).set i { nth (setC b i n) i with c := m } = _
  rw [e]
  unfold setC
  rw [List.set_set]
theorem mostE_c (x : En) (c : Int) : mostE { x with c := c } = mostE x := rfl
theorem mostE_500 (x : En) : 500 ≤ mostE x := by unfold mostE; split <;> omega
theorem setC_okk {h : Hs} {b : List En} (ok : Ok h b) {i : Nat} (hi : i < b.length) {n : Int} (hn : 0 ≤ n ∧ n ≤ mostE (nth b i)) : Ok h (setC b i n) := by
  refine ⟨ok.hs, by rw [setC_len]; exact ok.len, fun x hx => ?_⟩
  obtain ⟨j, hj, rfl⟩ := List.mem_iff_getElem.1 hx
  rw [setC_len] at hj
  have e : (setC b i n)[j]'(by rw [setC_len]; exact hj) = nth (setC b i n) j := by simp [nth, List.getD_eq_getElem?_getD, setC_len, hj]
  rw [e, setC_nth hi]
  split
  · obtain ⟨a1, a2, a3⟩ := ok.en _ (nth_mem hi)
    exact ⟨a1, a2, hn⟩
  · exact ok.en _ (nth_mem hj)
/-- What the count of an entry can be, if some count is true. -/
structure Can (h : Hs) (b : List En) (i : Nat) (q : Sp) : Prop where
  lo : 0 ≤ q.1 ∧ q.1 ≤ q.2 ∧ q.2 ≤ mostE (nth b i)
  can : ∀ n : Int, 0 ≤ n → n ≤ mostE (nth b i) → trueB h (setC b i n) nof = (decide (q.1 ≤ n) && decide (n ≤ q.2))
theorem blame_can {h : Hs} {b : List En} {i : Nat} (ok : Ok h b) (hi : i < b.length) (hk : trueB h (setC b i (kindE (nth b i))) nof = true) : Can h b i (blameI h b i) := by
  by_cases c : (nth b i).k = 1
  · have m : mostE (nth b i) = 100000 := by unfold mostE; rw [if_neg (by omega)]
    have k : kindE (nth b i) = 100000 := by unfold kindE; rw [if_pos c]
    rw [k] at hk
    obtain ⟨r, r1, r2, r3, r4⟩ := blame_one hi c hk
    rw [r3]
    refine ⟨by simp only; omega, fun n n0 n1 => ?_⟩
    rw [m] at n1
    rw [r4 n n0 n1]
    have : decide (n ≤ 100000) = true := decide_eq_true n1
    simp only [this, Bool.and_true]
  · have k : kindE (nth b i) = 0 := by unfold kindE; rw [if_neg c]
    rw [k] at hk
    obtain ⟨r, r1, r2, r3, r4⟩ := blame_two ok.hs hi c hk
    rw [r3]
    refine ⟨by simp only; omega, fun n n0 n1 => ?_⟩
    rw [r4 n n0 n1]
    have : decide (0 ≤ n) = true := decide_eq_true n0
    simp only [this, Bool.true_and]
theorem kind_any {h : Hs} {b : List En} {i : Nat} (ok : Ok h b) (hi : i < b.length) {n : Int} (hn : 0 ≤ n ∧ n ≤ mostE (nth b i)) (ht : trueB h (setC b i n) nof = true) : trueB h (setC b i (kindE (nth b i))) nof = true := by
  by_cases c : (nth b i).k = 1
  · have m : mostE (nth b i) = 100000 := by unfold mostE; rw [if_neg (by omega)]
    have k : kindE (nth b i) = 100000 := by unfold kindE; rw [if_pos c]
    rw [k]
    exact true_up hi c (by omega) ht
  · have k : kindE (nth b i) = 0 := by unfold kindE; rw [if_neg c]
    rw [k]
    exact true_down ok.hs hi c hn.1 ht
/-- Of a true book. -/
theorem free_in {h : Hs} {b : List En} {i : Nat} (ok : Ok h b) (hi : i < b.length) (ht : trueB h b nof = true) : Can h b i (blameI h b i) ∧ inS (nth b i).c (blameI h b i) = true := by
  have hc := (ok.en _ (nth_mem hi)).c
  have h0 : trueB h (setC b i (nth b i).c) nof = true := by rw [setC_id hi]; exact ht
  have cn := blame_can ok hi (kind_any ok hi hc h0)
  refine ⟨cn, ?_⟩
  have := cn.can _ hc.1 hc.2
  rw [h0] at this
  exact this.symm
/-- Just outside of the span there is no truth. -/
theorem free_out {h : Hs} {b : List En} {i : Nat} (ok : Ok h b) (hi : i < b.length) {q : Sp} (cn : Can h b i q) {c : Int} (hc : c = q.1 - 1 ∨ c = q.2 + 1) (h0 : 0 ≤ c) (he : checkErr h (setC b i c) = 0) : hasErr h (setC b i c) 0 = 9 := by
  have ok2 := check_ok he
  have hc2 : c ≤ mostE (nth b i) := by
    have := (ok2.en _ (nth_mem (l := setC b i c) (i := i) (by rw [setC_len]; exact hi))).c.2
    rw [setC_at hi] at this
    exact this
  have := cn.can c h0 hc2
  rw [hasErr_cases ok2 (by omega), this]
  have lo := cn.lo
  rcases hc with hc | hc
  · rw [decide_eq_false (by omega)]; rfl
  · rw [decide_eq_false (p := c ≤ q.2) (by omega), Bool.and_false]; rfl
theorem blame_nth {h : Hs} {b : List En} (ok : Ok h b) : (blameR h b).length = b.length ∧ ∀ i : Nat, i < b.length → nth (blameR h b) i = blameI h b i := by
  unfold blameR
  rw [check_back ok, if_pos rfl]
  refine ⟨blameL_len h b _, fun i hi => ?_⟩
  unfold blameL nth
  simp [List.getD_eq_getElem?_getD, hi]
theorem firstOf_find {α : Type} {f : Int → Option α} : ∀ (c : Nat) (n : Int), (∃ j : Nat, j < c ∧ f (n + j) ≠ none) → ∃ j : Nat, j < c ∧ f (n + j) ≠ none ∧ firstOf f c n = f (n + j) ∧ ∀ i : Nat, i < j → f (n + i) = none
  | 0, _, ⟨j, hj, _⟩ => by omega
  | c + 1, n, ⟨j, hj, hf⟩ => by
    cases h0 : f n with
    | some x =>
      refine ⟨0, by omega, by simp [h0], ?_, fun i hi => by omega⟩
      rw [firstOf, h0]
      simp [h0]
    | none =>
      have j0 : j ≠ 0 := fun e => by rw [e] at hf; simp [h0] at hf
      have e1 : ∀ i : Nat, n + 1 + (i : Int) = n + ((i + 1 : Nat) : Int) := fun i => by omega
      obtain ⟨k, k1, k2, k3, k4⟩ := firstOf_find (f := f) c (n + 1) ⟨j - 1, by omega, by rw [e1, show j - 1 + 1 = j by omega]; exact hf⟩
      rw [e1] at k2 k3
      refine ⟨k + 1, by omega, k2, ?_, fun i hi => ?_⟩
      · rw [firstOf, h0]
        exact k3
      · by_cases i0 : i = 0
        · rw [i0]; simp [h0]
        · have := k4 (i - 1) (by omega)
          rw [e1, show i - 1 + 1 = i by omega] at this
          exact this
theorem frS_nil : frS [] = nof := by
  funext i
  rfl
theorem frS_one (n j : Nat) : frS [(n : Int)] j = decide (j = n) := by
  unfold frS
  rw [Bool.eq_iff_iff, List.contains_iff_mem, decide_eq_true_eq, List.mem_singleton]
  omega
theorem hc_any {h : Hs} {x : En} (hh : OkH h) (hx : OkE h x) {w : Int} {s : Nat} (hs : s < h.tk.length) {n : Int} (hn : 0 ≤ n ∧ n ≤ mostE x) : hc h w s { x with c := n } false ≤ hc h w s x true := by
  have hk : x.k = 1 ∨ x.k = 2 ∨ x.k = 3 := by have := hx.k; omega
  rw [hc_free h w s x hk hh.sc.1]
  by_cases c : x.k = 1
  · have k : kindE x = 100000 := by unfold kindE; rw [if_pos c]
    have m : mostE x = 100000 := by unfold mostE; rw [if_neg (by omega)]
    rw [k]
    exact hc_up h w s x c (by omega)
  · have k : kindE x = 0 := by unfold kindE; rw [if_neg c]
    rw [k]
    exact hc_down h w s x c (by have := hh.tks _ (nth_mem (l := h.tk) (i := s) hs); simpa using this.1) hn.1
/-- The first entry that alone can be wrong. -/
theorem wrong_one {h : Hs} {b : List En} {i : Nat} (ok : Ok h b) (hi : i < b.length) {n : Int} (hn : 0 ≤ n ∧ n ≤ mostE (nth b i)) (ht : trueB h (setC b i n) nof = true) (hf : trueB h b nof = false) :
    wrongErr h b = 0 ∧ ∃ j : Nat, j ≤ i ∧ wrongR h b = [(j : Int)] ∧ trueB h (setC b j (kindE (nth b j))) nof = true := by
  have e : wrongErr h b = 0 := by
    unfold wrongErr
    rw [check_back ok, if_neg (by simp), hf]
    rfl
  refine ⟨e, ?_⟩
  have hfree : trueB h b (frS [(i : Int)]) = true := by
    refine trueB_le (b := setC b i n) (fr := nof) (setC_len b i n) (fun w s hs j hj => ?_) ht
    rw [setC_len] at hj
    rw [setC_nth hi, frS_one]
    by_cases c : j = i
    · subst c
      rw [if_pos rfl, decide_eq_true rfl]
      exact hc_any ok.hs (ok.en _ (nth_mem hi)) hs hn
    · rw [if_neg c, decide_eq_false c]
      exact Int.le_refl _
  have f0 : fromF (tryS h b) b.length 0 [] = none := by
    show (if trueB h b (frS []) then some [] else none) = none
    rw [frS_nil, hf]
    rfl
  have f1 : fromF (tryS h b) b.length 1 [] = firstOf (fun n => if trueB h b (frS [n]) then some [n] else none) b.length 0 := by
    rw [fromF_succ]
    have : ((b.length : Int) - ((0 + 1 : Nat) : Int) + 1 - nextI []).toNat = b.length := by
      show ((b.length : Int) - ((0 + 1 : Nat) : Int) + 1 - 0).toNat = b.length
      omega
    rw [this]
    rfl
  obtain ⟨j, j1, j2, j3, j4⟩ := firstOf_find (f := fun n => if trueB h b (frS [n]) then some [n] else none) b.length 0 ⟨i, hi, by simp only [Int.zero_add]; rw [hfree]; simp⟩
  simp only [Int.zero_add] at j2 j3 j4
  have hj : trueB h b (frS [(j : Int)]) = true := by
    cases hc : trueB h b (frS [(j : Int)]) with
    | true => rfl
    | false => rw [hc] at j2; exact absurd rfl j2
  rw [hj, if_pos rfl] at j3
  refine ⟨j, ?_, ?_, ?_⟩
  · apply Decidable.byContradiction
    intro hx
    have := j4 i (by omega)
    rw [hfree] at this
    exact absurd this (by simp)
  · unfold wrongR
    rw [e, if_pos rfl]
    unfold wrongF
    obtain ⟨L, hL⟩ : ∃ L, b.length + 1 = L + 2 := ⟨b.length - 1, by omega⟩
    rw [hL, firstOf]
    simp only [Int.toNat_zero]
    rw [f0]
    simp only [Int.zero_add]
    rw [firstOf]
    have : (1 : Int).toNat = 1 := rfl
    rw [this, f1, j3]
    rfl
  · refine trueB_le (b := b) (fr := frS [(j : Int)]) (setC_len b j _).symm (fun w s hs m hm => ?_) hj
    rw [setC_nth j1, frS_one]
    by_cases c : m = j
    · subst c
      rw [if_pos rfl, decide_eq_true rfl]
      have hx := ok.en _ (nth_mem j1)
      have hk : (nth b m).k = 1 ∨ (nth b m).k = 2 ∨ (nth b m).k = 3 := by have := hx.k; omega
      rw [hc_free h w s _ hk ok.hs.sc.1]
      exact Int.le_refl _
    · rw [if_neg c, decide_eq_false c]
      exact Int.le_refl _
end Go.Proofs.Ytninkfpeeemcoaa.Ab.T07
