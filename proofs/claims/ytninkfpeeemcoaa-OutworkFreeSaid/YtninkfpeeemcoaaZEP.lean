/- Plain facts about least counts, and about changed and freed counts (as in E6, E7, E8). -/
import Derived.Test.YtninkfpeeemcoaaZS6
namespace Go.Proofs.Ytninkfpeeemcoaa.Ab.T07
open Go Go.RowKit
set_option linter.unusedVariables false
set_option linter.unusedSimpArgs false
set_option maxRecDepth 100000
theorem leastL_spec {p : Int → Bool} {most : Int} (hm : ∀ n m : Int, 0 ≤ n → n ≤ m → m ≤ most → p n = true → p m = true) : ∀ (k : Nat) (f m c : Int), 0 ≤ f → f ≤ m → m ≤ most + 1 → (m - f).toNat ≤ k → (∀ n, 0 ≤ n → n < f → p n = false) → (m ≤ most → p m = true) →
    (∀ n, 0 ≤ n → n < (leastL p k f m c).1 → p n = false) ∧ ((leastL p k f m c).1 ≤ most → p (leastL p k f m c).1 = true)
  | 0, f, m, c, h0, h1, h2, h3, h4, h5 => by
    have : f = m := by omega
    subst this
    exact ⟨h4, h5⟩
  | k + 1, f, m, c, h0, h1, h2, h3, h4, h5 => by
    rw [leastL]
    by_cases hc : f < m
    · rw [if_pos hc]
      cases hp : p ((f + m) / 2) with
      | true =>
        rw [if_pos rfl]
        exact leastL_spec hm k f ((f + m) / 2) _ h0 (by omega) (by omega) (by omega) h4 (fun _ => hp)
      | false =>
        rw [if_neg (by decide)]
        refine leastL_spec hm k ((f + m) / 2 + 1) m _ (by omega) (by omega) h2 (by omega) (fun n hn0 hn => ?_) h5
        cases hpn : p n with
        | false => rfl
        | true => rw [hm n ((f + m) / 2) hn0 (by omega) (by omega) hpn] at hp; cases hp
    · rw [if_neg hc]
      have : f = m := by omega
      subst this
      exact ⟨h4, h5⟩
theorem leastP_spec {p : Int → Bool} {most : Int} (c : Int) (h : 0 ≤ most) (hm : ∀ n m : Int, 0 ≤ n → n ≤ m → m ≤ most → p n = true → p m = true) : (∀ n, 0 ≤ n → n < (leastP p most c).1 → p n = false) ∧ ((leastP p most c).1 ≤ most → p (leastP p most c).1 = true) :=
  leastL_spec hm _ 0 (most + 1) c (Int.le_refl _) (by omega) (Int.le_refl _) (by omega) (fun n h0 h1 => by omega) (fun h => by omega)
/-! ### the best there can be -/
def kindE (x : En) : Int := if x.k = 1 then 100000 else 0
def hc (h : Hs) (w s : Int) (x : En) (fr : Bool) : Int := high (accS h w s ⟨0, 0, 0, 0, 0, 0, 0⟩ x fr)
theorem accS_high (h : Hs) (w s : Int) (a : Ac) (x : En) (fr : Bool) : high (accS h w s a x fr) = high a + hc h w s x fr := by
  unfold hc accS
  split
  · simp [high]
  · split
    · simp only [high]; omega
    · split
      · simp [high]
      · split <;> (simp only [high]; omega)
theorem high_le {h : Hs} {b b2 : List En} {w s : Int} {fr fr2 : Nat → Bool} : ∀ n : Nat, (∀ j, j < n → hc h w s (nth b j) (fr j) ≤ hc h w s (nth b2 j) (fr2 j)) → high (accN h b w s fr n) ≤ high (accN h b2 w s fr2 n)
  | 0, _ => Int.le_refl _
  | n + 1, hj => by
    have i := high_le (h := h) (b := b) (b2 := b2) (w := w) (s := s) (fr := fr) (fr2 := fr2) n fun j h => hj j (by omega)
    have g := hj n (by omega)
    simp only [accN]
    rw [accS_high, accS_high]
    omega
theorem trueB_le {h : Hs} {b b2 : List En} {fr fr2 : Nat → Bool} (hl : b.length = b2.length) (hj : ∀ (w : Int) (s : Nat), s < h.tk.length → ∀ j, j < b.length → hc h w s (nth b j) (fr j) ≤ hc h w s (nth b2 j) (fr2 j)) (ht : trueB h b fr = true) : trueB h b2 fr2 = true := by
  refine trueB_iff.2 fun w hw => okW_iff.2 fun s hs => ?_
  have g := okW_iff.1 (trueB_iff.1 ht w hw) s hs
  have e := high_le (h := h) (b := b) (b2 := b2) (w := w) (s := s) (fr := fr) (fr2 := fr2) b.length fun j hjj => hj w s hs j hjj
  unfold acc at g ⊢
  rw [← hl]
  omega
theorem hc_up (h : Hs) (w s : Int) (x : En) (hk : x.k = 1) {n m : Int} (hn : n ≤ m) : hc h w s { x with c := n } false ≤ hc h w s { x with c := m } false := by
  unfold hc accS cnt wgt
  simp only [hk, Bool.false_eq_true, if_false]
  split
  · exact Int.le_refl _
  · simp only [show ¬ ((1 : Int) = 3) by decide, if_false, if_true]
    split
    · exact Int.le_refl _
    · simp only [high]; omega
theorem hc_down (h : Hs) (w s : Int) (x : En) (hk : x.k ≠ 1) (ht : 0 ≤ (nth h.tk s.toNat).1) {n m : Int} (hn : n ≤ m) : hc h w s { x with c := m } false ≤ hc h w s { x with c := n } false := by
  unfold hc accS cnt wgt
  simp only [Bool.false_eq_true, if_false, hk]
  split
  · exact Int.le_refl _
  · split
    · have := Int.mul_le_mul_of_nonneg_right hn ht
      simp only [high]; omega
    · split
      · exact Int.le_refl _
      · simp only [high]; omega
theorem hc_free (h : Hs) (w s : Int) (x : En) (hk : x.k = 1 ∨ x.k = 2 ∨ x.k = 3) (hs : 0 ≤ h.sc) : hc h w s x true = hc h w s { x with c := kindE x } false := by
  unfold hc accS cnt wgt kindE mostE
  simp only [Bool.false_eq_true, if_false, if_true]
  split
  · rfl
  · rcases hk with e | e | e
    · simp only [e, show ¬ ((1 : Int) = 3) by decide, if_false, if_true]
      split
      · rfl
      · simp only [high]
    · simp only [e, show ¬ ((2 : Int) = 3) by decide, show ¬ ((2 : Int) = 1) by decide, if_false, if_true]
      split
      · rfl
      · simp only [high]
    · simp only [e, show ¬ ((3 : Int) = 1) by decide, if_false, if_true, high]
theorem setC_nth {b : List En} {i : Nat} (hi : i < b.length) (n : Int) (j : Nat) : nth (setC b i n) j = if j = i then { nth b i with c := n } else nth b j := by
  unfold setC nth
  by_cases e : j = i
  · subst e
    rw [if_pos rfl]
    simp [List.getD_eq_getElem?_getD, hi]
  · rw [if_neg e]
    simp only [List.getD_eq_getElem?_getD]
    rw [List.getElem?_set_ne (fun g => e g.symm)]
theorem true_set {h : Hs} {b : List En} {i : Nat} (hi : i < b.length) {n m : Int} (hc1 : ∀ (w : Int) (s : Nat), s < h.tk.length → hc h w s { nth b i with c := n } false ≤ hc h w s { nth b i with c := m } false) (ht : trueB h (setC b i n) nof = true) : trueB h (setC b i m) nof = true := by
  refine trueB_le (by rw [setC_len, setC_len]) (fun w s hs j hj => ?_) ht
  rw [setC_nth hi, setC_nth hi]
  by_cases e : j = i
  · rw [if_pos e, if_pos e]
    exact hc1 w s hs
  · rw [if_neg e, if_neg e]
    exact Int.le_refl _
theorem true_up {h : Hs} {b : List En} {i : Nat} (hi : i < b.length) (hk : (nth b i).k = 1) {n m : Int} (hn : n ≤ m) (ht : trueB h (setC b i n) nof = true) : trueB h (setC b i m) nof = true :=
  true_set hi (fun w s _ => hc_up h w s (nth b i) hk hn) ht
theorem true_down {h : Hs} {b : List En} {i : Nat} (hh : OkH h) (hi : i < b.length) (hk : (nth b i).k ≠ 1) {n m : Int} (hn : n ≤ m) (ht : trueB h (setC b i m) nof = true) : trueB h (setC b i n) nof = true :=
  true_set hi (fun w s hs => hc_down h w s (nth b i) hk (by
    have := hh.tks _ (nth_mem (l := h.tk) (i := s) hs)
    have e : ((s : Int)).toNat = s := Int.toNat_natCast s
    rw [e]
    omega) hn) ht
/-! ### which counts there can be -/
theorem blame_one {h : Hs} {b : List En} {i : Nat} (hi : i < b.length) (hk : (nth b i).k = 1) (ht : trueB h (setC b i 100000) nof = true) : ∃ r : Int, 0 ≤ r ∧ r ≤ 100000 ∧ blameI h b i = (r, 100000) ∧ ∀ n : Int, 0 ≤ n → n ≤ 100000 → trueB h (setC b i n) nof = decide (r ≤ n) := by
  have em : mostE (nth b i) = 100000 := by unfold mostE; rw [if_neg (by omega)]
  have hm : ∀ n m : Int, 0 ≤ n → n ≤ m → m ≤ 100000 → trueB h (setC b i n) nof = true → trueB h (setC b i m) nof = true := fun n m _ g _ => true_up hi hk g
  have g1 := leastP_bd (fun n => trueB h (setC b i n) nof) (most := 100000) (nth b i).c (by omega)
  have g2 := leastP_spec (p := fun n => trueB h (setC b i n) nof) (most := 100000) (nth b i).c (by omega) hm
  have eb : blameI h b i = if (leastP (fun n => trueB h (setC b i n) nof) (mostE (nth b i)) (nth b i).c).1 > mostE (nth b i) then (1, 0) else ((leastP (fun n => trueB h (setC b i n) nof) (mostE (nth b i)) (nth b i).c).1, mostE (nth b i)) := by unfold blameI; rw [if_pos hk]
  rw [em] at eb
  generalize (leastP (fun n => trueB h (setC b i n) nof) 100000 (nth b i).c).1 = r at g1 g2 eb
  have hr : r ≤ 100000 := by
    by_cases c : r ≤ 100000
    · exact c
    · have := g2.1 100000 (by omega) (by omega)
      rw [ht] at this
      cases this
  refine ⟨r, g1.1, hr, by rw [eb, if_neg (by omega)], fun n h0 h1 => ?_⟩
  by_cases c : r ≤ n
  · rw [decide_eq_true c]
    exact hm r n g1.1 c h1 (g2.2 hr)
  · rw [decide_eq_false c]
    exact g2.1 n h0 (by omega)
theorem blame_two {h : Hs} {b : List En} {i : Nat} (hh : OkH h) (hi : i < b.length) (hk : (nth b i).k ≠ 1) (ht : trueB h (setC b i 0) nof = true) : ∃ r : Int, 0 ≤ r ∧ r ≤ mostE (nth b i) ∧ blameI h b i = (0, r) ∧ ∀ n : Int, 0 ≤ n → n ≤ mostE (nth b i) → trueB h (setC b i n) nof = decide (n ≤ r) := by
  have hb := mostE_bd (nth b i)
  have hm : ∀ n m : Int, 0 ≤ n → n ≤ m → m ≤ mostE (nth b i) → (!trueB h (setC b i n) nof) = true → (!trueB h (setC b i m) nof) = true := fun n m _ g _ hn => by
    cases hT : trueB h (setC b i m) nof with
    | false => rfl
    | true => rw [true_down hh hi hk g hT] at hn; cases hn
  have g1 := leastP_bd (fun n => !trueB h (setC b i n) nof) (most := mostE (nth b i)) (nth b i).c hb.1
  have g2 := leastP_spec (p := fun n => !trueB h (setC b i n) nof) (most := mostE (nth b i)) (nth b i).c hb.1 hm
  have eb : blameI h b i = if (0 : Int) > (leastP (fun n => !trueB h (setC b i n) nof) (mostE (nth b i)) (nth b i).c).1 - 1 then (1, 0) else (0, (leastP (fun n => !trueB h (setC b i n) nof) (mostE (nth b i)) (nth b i).c).1 - 1) := by unfold blameI; rw [if_neg hk]
  generalize (leastP (fun n => !trueB h (setC b i n) nof) (mostE (nth b i)) (nth b i).c).1 = r at g1 g2 eb
  have hr : 1 ≤ r := by
    by_cases c : 1 ≤ r
    · exact c
    · have e : r = 0 := by omega
      have := g2.2 (by omega)
      rw [e, ht] at this
      cases this
  refine ⟨r - 1, by omega, by omega, by rw [eb, if_neg (by omega)], fun n h0 h1 => ?_⟩
  by_cases c : n ≤ r - 1
  · rw [decide_eq_true c]
    have := g2.1 n h0 (by omega)
    simpa using this
  · rw [decide_eq_false c]
    have := hm r n g1.1 (by omega) h1 (g2.2 (by omega))
    simpa using this
theorem blame_none {h : Hs} {b : List En} {i : Nat} (hh : OkH h) (hi : i < b.length) (ht : trueB h (setC b i (kindE (nth b i))) nof = false) : blameI h b i = (1, 0) := by
  have hb := mostE_bd (nth b i)
  unfold kindE at ht
  by_cases hk : (nth b i).k = 1
  · rw [if_pos hk] at ht
    have em : mostE (nth b i) = 100000 := by unfold mostE; rw [if_neg (by omega)]
    have hm : ∀ n m : Int, 0 ≤ n → n ≤ m → m ≤ 100000 → trueB h (setC b i n) nof = true → trueB h (setC b i m) nof = true := fun n m _ g _ => true_up hi hk g
    have g1 := leastP_bd (fun n => trueB h (setC b i n) nof) (most := 100000) (nth b i).c (by omega)
    have g2 := leastP_spec (p := fun n => trueB h (setC b i n) nof) (most := 100000) (nth b i).c (by omega) hm
    have eb : blameI h b i = if (leastP (fun n => trueB h (setC b i n) nof) (mostE (nth b i)) (nth b i).c).1 > mostE (nth b i) then (1, 0) else ((leastP (fun n => trueB h (setC b i n) nof) (mostE (nth b i)) (nth b i).c).1, mostE (nth b i)) := by unfold blameI; rw [if_pos hk]
    rw [em] at eb
    generalize (leastP (fun n => trueB h (setC b i n) nof) 100000 (nth b i).c).1 = r at g1 g2 eb
    rw [eb, if_pos]
    by_cases c : r ≤ 100000
    · have := hm r 100000 g1.1 c (by omega) (g2.2 c)
      rw [ht] at this
      cases this
    · omega
  · rw [if_neg hk] at ht
    have hm : ∀ n m : Int, 0 ≤ n → n ≤ m → m ≤ mostE (nth b i) → (!trueB h (setC b i n) nof) = true → (!trueB h (setC b i m) nof) = true := fun n m _ g _ hn => by
      cases hT : trueB h (setC b i m) nof with
      | false => rfl
      | true => rw [true_down hh hi hk g hT] at hn; cases hn
    have g1 := leastP_bd (fun n => !trueB h (setC b i n) nof) (most := mostE (nth b i)) (nth b i).c hb.1
    have g2 := leastP_spec (p := fun n => !trueB h (setC b i n) nof) (most := mostE (nth b i)) (nth b i).c hb.1 hm
    have eb : blameI h b i = if (0 : Int) > (leastP (fun n => !trueB h (setC b i n) nof) (mostE (nth b i)) (nth b i).c).1 - 1 then (1, 0) else (0, (leastP (fun n => !trueB h (setC b i n) nof) (mostE (nth b i)) (nth b i).c).1 - 1) := by unfold blameI; rw [if_neg hk]
    generalize (leastP (fun n => !trueB h (setC b i n) nof) (mostE (nth b i)) (nth b i).c).1 = r at g1 g2 eb
    rw [eb, if_pos]
    by_cases c : r ≤ 0
    · omega
    · have := g2.1 0 (by omega) (by omega)
      rw [ht] at this
      cases this
/-! ### the walks -/
theorem kindE_bd {h : Hs} {x : En} (hx : OkE h x) : 0 ≤ kindE x ∧ kindE x ≤ mostE x := by
  unfold kindE mostE
  split
  · rw [if_neg (by omega)]; omega
  · split <;> omega
end Go.Proofs.Ytninkfpeeemcoaa.Ab.T07
