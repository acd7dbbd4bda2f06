/- The plain law OutworkEnough: what Give says is enough, of a grain less not surely; what Fans says can be brought. -/
import Derived.Test.YtninkfpeeemcoaaZS9
import Derived.Test.YtninkfpeeemcoaaZEP
namespace Go.Proofs.Ytninkfpeeemcoaa.Ab.T07
open Go Go.RowKit
set_option linter.unusedVariables false
set_option linter.unusedSimpArgs false
set_option maxRecDepth 100000
theorem enough_ge {N t n : Int} (hN : 0 ≤ N) (ht : 0 ≤ t) (hn : 0 ≤ n ∧ n ≤ 500) : n ≤ enoughI N t ↔ n * t ≤ N := by
  unfold enoughI
  by_cases c : t = 0
  · rw [if_pos c, c, Int.mul_zero]
    omega
  · rw [if_neg c]
    have := Int.le_ediv_iff_mul_le (a := n) (b := N) (c := t) (by omega)
    omega
theorem giveP_up {h : Hs} {i : Nat} {need : Int} (hl : 0 ≤ nth h.lo i ∧ nth h.lo i ≤ 1000) : ∀ n m : Int, 0 ≤ n → n ≤ m → m ≤ 100000 → giveP h i need n = true → giveP h i need m = true := fun n m h0 h1 h2 hp => by
  unfold giveP at *
  have := (loss_mono hl h1).1
  have := of_decide_eq_true hp
  exact decide_eq_true (by omega)
theorem giveErr_cases {h : Hs} {n : Int} (hh : OkH h) (two : h.tk.length = 2) (hn : 0 ≤ n ∧ n ≤ 500) : (giveErr h n = 7 ∧ giveR h n = []) ∨ (giveErr h n = 0 ∧ giveR h n = giveL h n 2 ∧ ∀ s : Nat, s < 2 → giveI h n s ≤ 100000) := by
  have c0 : checkErr h [] = 0 := check_back ⟨hh, by simp, by simp⟩
  have e : giveErr h n = if giveBad h n then 7 else 0 := by
    unfold giveErr
    rw [c0, if_neg (by simp), if_pos (by simp [betw]; omega)]
  unfold giveR
  cases hb : giveBad h n with
  | true =>
    rw [hb, if_pos rfl] at e
    rw [e]
    exact .inl ⟨rfl, if_neg (by decide)⟩
  | false =>
    rw [hb, if_neg (by decide)] at e
    rw [e, two]
    refine .inr ⟨rfl, if_pos rfl, fun s hs => ?_⟩
    unfold giveBad at hb
    have := List.any_eq_false.1 hb s (List.mem_range.2 (by omega))
    simp only [decide_eq_true_eq] at this
    omega
theorem giveL_nth (h : Hs) (n : Int) {s : Nat} (hs : s < 2) : nth (giveL h n 2) s = giveI h n s := by
  unfold giveL nth
  simp [List.getD_eq_getElem?_getD, hs]
/-- What is surely there of a weight. -/
def lowO (h : Hs) (s : Nat) (c : Int) : Int := max 0 (max 0 (c - h.sc) - max 0 (c - h.sc) * nth h.lo s / 1000)
theorem give_nn {h : Hs} {n : Int} {s : Nat} (hh : OkH h) : 0 ≤ giveI h n s := by
  unfold giveI
  split
  · exact Int.le_refl _
  · have := (leastL_bd (giveP h s (n * (nth h.tk s).2)) (100000 + 1 : Int).toNat 0 (100000 + 1) 0 (by omega)).1
    have := hh.sc
    unfold leastP
    omega
theorem give_low {h : Hs} {n : Int} {s : Nat} (hh : OkH h) (two : h.tk.length = 2) (hn : 0 ≤ n) (hs : s < 2) (hg : giveI h n s ≤ 100000) :
    n * (nth h.tk s).2 ≤ lowO h s (giveI h n s) ∧ (0 ≤ giveI h n s - 1 → ¬ n * (nth h.tk s).2 ≤ lowO h s (giveI h n s - 1)) := by
  have tk := hh.tks _ (nth_mem (l := h.tk) (i := s) (by omega))
  have hl := hh.los _ (nth_mem (l := h.lo) (i := s) (by have := hh.lo; omega))
  have hsc := hh.sc
  have nn := Int.mul_nonneg hn (show 0 ≤ (nth h.tk s).2 by omega)
  unfold giveI at hg ⊢
  by_cases c : n * (nth h.tk s).2 = 0
  · rw [if_pos c] at hg ⊢
    rw [c]
    unfold lowO
    omega
  · rw [if_neg c] at hg ⊢
    obtain ⟨p1, p2⟩ := leastP_spec (p := giveP h s (n * (nth h.tk s).2)) (most := 100000) 0 (by omega) (giveP_up hl)
    have b0 := leastL_bd (giveP h s (n * (nth h.tk s).2)) (100000 + 1 : Int).toNat 0 (100000 + 1) 0 (by omega)
    have hL : 0 ≤ (leastP (giveP h s (n * (nth h.tk s).2)) 100000 0).1 := b0.1
    generalize (leastP (giveP h s (n * (nth h.tk s).2)) 100000 0).1 = L at *
    have p2 := p2 (by omega)
    unfold giveP at p1 p2
    have p2 := of_decide_eq_true p2
    have e1 : max 0 (L + h.sc - h.sc) = L := by omega
    unfold lowO
    rw [e1]
    refine ⟨by omega, fun h1 => ?_⟩
    have l1 : 1 ≤ L := by
      apply Decidable.byContradiction
      intro hx
      have : L = 0 := by omega
      rw [this] at p2
      omega
    have e2 : max 0 (L + h.sc - 1 - h.sc) = L - 1 := by omega
    rw [e2]
    have := of_decide_eq_false (p1 (L - 1) (by omega) (by omega))
    omega
/-- Two weights are given out. -/
def outB (c : Nat → Int) : List En := [⟨0, 1, 0, c 0⟩, ⟨0, 1, 1, c 1⟩]
theorem outB_acc (h : Hs) (c : Nat → Int) (w : Nat) {s : Nat} (hs : s < 2) : acc h (outB c) w s nof = if w = 0 then ⟨max 0 (c s - h.sc), c s + h.sc, 0, 0, 0, 0, nth h.lo s⟩ else ⟨0, 0, 0, 0, 0, 0, nth h.lo s⟩ := by
  have e : outB c = ([] ++ [⟨0, 1, 0, c 0⟩]) ++ [⟨0, 1, 1, c 1⟩] := rfl
  have z : acc h [] w s nof = ⟨0, 0, 0, 0, 0, 0, nth h.lo s⟩ := by simp [acc, accN]
  rw [e, acc_push, accS_out, acc_push, accS_out, z]
  obtain rfl | rfl : s = 0 ∨ s = 1 := by omega
  · by_cases hw : w = 0
    · rw [if_neg (by omega), if_pos (by omega), if_pos hw]
      simp only [Int.zero_add]
    · rw [if_neg (by omega), if_neg (by omega), if_neg hw]
  · by_cases hw : w = 0
    · rw [if_pos (by omega), if_neg (by omega), if_pos hw]
      simp only [Int.zero_add]
    · rw [if_neg (by omega), if_neg (by omega), if_neg hw]
theorem outB_ok {h : Hs} {c : Nat → Int} (hh : OkH h) (two : h.tk.length = 2) (hc : ∀ s : Nat, s < 2 → 0 ≤ c s ∧ c s ≤ 100000) : hasErr h (outB c) 0 = 0 ∧ fansR h (outB c) 0 = fansN (hasL h (outB c) 0 2) h.tk 2 ∧
    (∀ s : Nat, s < 2 → has (acc h (outB c) 0 s nof) = (lowO h s (c s), c s + h.sc)) := by
  have c0 := hc 0 (by omega)
  have c1 := hc 1 (by omega)
  have ok : Ok h (outB c) := by
    refine ⟨hh, by simp [outB], fun x hx => ?_⟩
    simp only [outB, List.mem_cons, List.not_mem_nil, or_false] at hx
    rcases hx with rfl | rfl
    · refine ⟨by simp, .inl ⟨.inl rfl, by simp, by simp only; omega⟩, ?_⟩
      unfold mostE
      rw [if_neg (by simp)]
      exact c0
    · refine ⟨by simp, .inl ⟨.inl rfl, by simp, by simp only; omega⟩, ?_⟩
      unfold mostE
      rw [if_neg (by simp)]
      exact c1
  have hsc := hh.sc
  have tb : trueB h (outB c) nof = true := trueB_iff.2 fun w hw => okW_iff.2 fun s hs => by
    have cs := hc s (by omega)
    rw [outB_acc h c w (by omega)]
    split
    · unfold high; simp only; omega
    · unfold high; simp
  have eo : openErr h (outB c) = 0 := by
    unfold openErr
    rw [check_back ok, if_neg (by simp), tb, if_pos rfl]
  have eh : hasErr h (outB c) 0 = 0 := by
    unfold hasErr
    rw [eo, if_neg (by simp), if_pos (by simp [isWorker, betw])]
  refine ⟨eh, ?_, fun s hs => ?_⟩
  · unfold fansR
    rw [eh, if_pos rfl, two]
  · have := outB_acc h c 0 hs
    rw [if_pos rfl] at this
    rw [show acc h (outB c) 0 (s : Int) nof = acc h (outB c) ((0 : Nat) : Int) s nof from rfl, this]
    unfold has loss high lowO
    simp
theorem low_le {h : Hs} {s : Nat} {c : Int} (hl : 0 ≤ nth h.lo s ∧ nth h.lo s ≤ 1000) (hc : 0 ≤ c) (hsc : 0 ≤ h.sc) : 0 ≤ lowO h s c ∧ lowO h s c ≤ c + h.sc := by
  unfold lowO
  have := Int.ediv_nonneg (Int.mul_nonneg (show 0 ≤ max 0 (c - h.sc) by omega) hl.1) (show (0 : Int) ≤ 1000 by omega)
  omega
theorem enough_mono {N M t u : Int} (hN : 0 ≤ N) (hNM : N ≤ M) (hu : 0 ≤ u) (hut : u ≤ t) : enoughI N t ≤ enoughI M u := by
  have b : 0 ≤ enoughI N t ∧ enoughI N t ≤ 500 := by
    unfold enoughI
    split
    · omega
    · have := Int.ediv_nonneg hN (show 0 ≤ t by omega)
      omega
  have := (enough_ge hN (show 0 ≤ t by omega) b).1 (Int.le_refl _)
  refine (enough_ge (by omega) hu b).2 ?_
  have := Int.mul_le_mul_of_nonneg_left hut b.1
  omega
/-- Fans of two weights that were given out. -/
theorem out_fans {h : Hs} {n : Int} {c : Nat → Int} (hh : OkH h) (two : h.tk.length = 2) (hn : 0 ≤ n ∧ n ≤ 500) (hc : ∀ s : Nat, s < 2 → 0 ≤ c s ∧ c s ≤ 100000) :
    (fansR h (outB c) 0).1 ≤ (fansR h (outB c) 0).2 ∧ (n ≤ (fansR h (outB c) 0).1 ↔ ∀ s : Nat, s < 2 → n * (nth h.tk s).2 ≤ lowO h s (c s)) := by
  obtain ⟨e1, e2, e3⟩ := outB_ok hh two hc
  rw [e2]
  have L0 := hasL_nth (h := h) (b := outB c) (w := 0) (n := 2) (i := 0) (by omega)
  have L1 := hasL_nth (h := h) (b := outB c) (w := 0) (n := 2) (i := 1) (by omega)
  rw [e3 0 (by omega)] at L0
  rw [e3 1 (by omega)] at L1
  simp only [fansN]
  rw [L0, L1]
  simp only
  have k0 := hh.tks _ (nth_mem (l := h.tk) (i := 0) (by omega))
  have k1 := hh.tks _ (nth_mem (l := h.tk) (i := 1) (by omega))
  have lo0 := hh.los _ (nth_mem (l := h.lo) (i := 0) (by have := hh.lo; omega))
  have lo1 := hh.los _ (nth_mem (l := h.lo) (i := 1) (by have := hh.lo; omega))
  have b0 := low_le lo0 (hc 0 (by omega)).1 hh.sc.1
  have b1 := low_le lo1 (hc 1 (by omega)).1 hh.sc.1
  have m0 := enough_mono b0.1 b0.2 k0.1 k0.2.1
  have m1 := enough_mono b1.1 b1.2 k1.1 k1.2.1
  have g0 := enough_ge b0.1 (show 0 ≤ (nth h.tk 0).2 by omega) hn
  have g1 := enough_ge b1.1 (show 0 ≤ (nth h.tk 1).2 by omega) hn
  refine ⟨by omega, ⟨fun hx s hs => ?_, fun hx => ?_⟩⟩
  · obtain rfl | rfl : s = 0 ∨ s = 1 := by omega
    · exact g0.1 (by omega)
    · exact g1.1 (by omega)
  · have a0 := g0.2 (hx 0 (by omega))
    have a1 := g1.2 (hx 1 (by omega))
    omega
/-- The book in which a worker brings fans at the end. -/
def fanB (b : List En) (w c : Int) : List En := b ++ [⟨w, 3, 0, c⟩]
theorem fan_high (h : Hs) (b : List En) (w c : Int) (w' : Int) (s' : Nat) : T07.high (acc h (fanB b w c) w' s' nof) = T07.high (acc h b w' s' nof) - (if w = w' then c * (nth h.tk s').1 else 0) := by
  unfold fanB
  rw [acc_push, accS_fan]
  unfold T07.high
  split
  · simp only [Int.toNat_natCast]; omega
  · omega
theorem fan_ok {h : Hs} {b : List En} {w c : Int} (ok : Ok h b) (hb : b.length ≤ 11) (hw : 0 ≤ w ∧ w ≤ 5) (hc : 0 ≤ c ∧ c ≤ 500) : Ok h (fanB b w c) := by
  refine ⟨ok.hs, by unfold fanB; simp; omega, fun x hx => ?_⟩
  rcases List.mem_append.1 hx with h1 | h1
  · exact ok.en x h1
  · rw [List.mem_singleton.1 h1]
    refine ⟨by simp only; omega, .inr ⟨rfl, rfl⟩, ?_⟩
    have e : mostE ⟨w, 3, 0, c⟩ = 500 := by unfold mostE; rw [if_pos rfl]
    rw [e]
    exact hc
theorem hasErr_cases {h : Hs} {b : List En} {w : Int} (ok : Ok h b) (hw : 0 ≤ w ∧ w ≤ 5) : hasErr h b w = if trueB h b nof then 0 else 9 := by
  have eo : openErr h b = if trueB h b nof then 0 else 9 := by
    unfold openErr
    rw [check_back ok, if_neg (by simp)]
  unfold hasErr
  rw [eo]
  split
  · rw [if_neg (by simp), if_pos (by simp [isWorker, betw]; omega)]
  · rw [if_pos (by simp)]
/-- What Fans possibly allows can be brought, one more cannot. -/
theorem fans_top {h : Hs} {b : List En} {w : Nat} (ok : Ok h b) (two : h.tk.length = 2) (hb : b.length ≤ 11) (hw : w < 6) (ht : trueB h b nof = true) :
    0 ≤ (fansR h b w).2 ∧ (fansR h b w).2 ≤ 500 ∧ hasErr h (fanB b w (fansR h b w).2) w = 0 ∧ ((fansR h b w).2 + 1 ≤ 500 → hasErr h (fanB b w ((fansR h b w).2 + 1)) w = 9) := by
  have e : hasErr h b w = 0 := by rw [hasErr_cases ok (by omega), ht]; rfl
  have L0 := hasL_nth (h := h) (b := b) (w := w) (n := 2) (i := 0) (by omega)
  have L1 := hasL_nth (h := h) (b := b) (w := w) (n := 2) (i := 1) (by omega)
  have hi : ∀ w' : Nat, w' < 6 → ∀ s : Nat, s < 2 → 0 ≤ T07.high (acc h b w' s nof) := fun w' hw' s hs => okW_iff.1 (trueB_iff.1 ht w' hw') s (by omega)
  have h0 := hi w hw 0 (by omega)
  have h1 := hi w hw 1 (by omega)
  have k0 := ok.hs.tks _ (nth_mem (l := h.tk) (i := 0) (by omega))
  have k1 := ok.hs.tks _ (nth_mem (l := h.tk) (i := 1) (by omega))
  have eF : (fansR h b w).2 = min (min 500 (enoughI (T07.high (acc h b w ((0 : Nat) : Int) nof)) (nth h.tk 0).1)) (enoughI (T07.high (acc h b w ((1 : Nat) : Int) nof)) (nth h.tk 1).1) := by
    unfold fansR
    rw [e, if_pos rfl, two]
    simp only [fansN]
    rw [L0, L1]
    rfl
  have en : ∀ N t : Int, 0 ≤ N → 0 ≤ t → 0 ≤ enoughI N t := fun N t a c => by
    unfold enoughI
    split
    · omega
    · have := Int.ediv_nonneg a c
      omega
  have n0 := en _ _ h0 k0.1
  have n1 := en _ _ h1 k1.1
  have pb : 0 ≤ (fansR h b w).2 ∧ (fansR h b w).2 ≤ 500 := by omega
  generalize (fansR h b w).2 = P at *
  refine ⟨pb.1, pb.2, ?_, fun hP => ?_⟩
  · rw [hasErr_cases (fan_ok ok hb (by omega) pb) (by omega), if_pos]
    refine trueB_iff.2 fun w' hw' => okW_iff.2 fun s hs => ?_
    rw [fan_high]
    have hh := hi w' hw' s (by omega)
    split
    · rename_i ew
      have ew : w = w' := by omega
      subst ew
      obtain rfl | rfl : s = 0 ∨ s = 1 := by omega
      · have := (enough_ge h0 k0.1 pb).1 (by omega)
        omega
      · have := (enough_ge h1 k1.1 pb).1 (by omega)
        omega
    · omega
  · rw [hasErr_cases (fan_ok ok hb (by omega) ⟨by omega, hP⟩) (by omega), if_neg]
    intro tb
    have g : ∀ s : Nat, s < 2 → 0 ≤ T07.high (acc h b w s nof) - (P + 1) * (nth h.tk s).1 := fun s hs => by
      have := okW_iff.1 (trueB_iff.1 tb w hw) s (by omega)
      rw [fan_high, if_pos rfl] at this
      exact this
    have a0 := (enough_ge h0 k0.1 (n := P + 1) (by omega)).2 (by have := g 0 (by omega); omega)
    have a1 := (enough_ge h1 k1.1 (n := P + 1) (by omega)).2 (by have := g 1 (by omega); omega)
    omega
end Go.Proofs.Ytninkfpeeemcoaa.Ab.T07
