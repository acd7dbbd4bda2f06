/- The plain law OutworkBetter: with less loss, and better scales, nothing is wider; what was handed over. -/
import Derived.Test.YtninkfpeeemcoaaZS9
namespace Go.Proofs.Ytninkfpeeemcoaa.Ab.T07
open Go Go.RowKit
set_option linter.unusedVariables false
set_option linter.unusedSimpArgs false
set_option maxRecDepth 100000
/-- The loss changes nothing but the loss. -/
theorem acc_less {h g : Hs} (h1 : g.sc = h.sc) (h2 : g.tk = h.tk) (b : List En) (w s : Int) (fr : Nat → Bool) : ∀ n, accN g b w s fr n = { accN h b w s fr n with lo := nth g.lo s.toNat }
  | 0 => rfl
  | n + 1 => by
    rw [accN, accN, acc_less h1 h2 b w s fr n]
    unfold accS wgt
    rw [h1, h2]
    split
    · rfl
    · split
      · rfl
      · split
        · rfl
        · split <;> rfl
def lessH (h : Hs) : Hs := ⟨h.sc, h.tk, [nth h.lo 0 / 2, 0]⟩
theorem lessH_ok {h : Hs} {b : List En} (ok : Ok h b) (two : h.tk.length = 2) : Ok (lessH h) b := by
  obtain ⟨⟨a1, a2, a3, a4, a5⟩, a6, a7⟩ := ok
  have l0 := a5 _ (nth_mem (l := h.lo) (i := 0) (by omega))
  refine ⟨⟨a1, a2, by simp [lessH, two], a4, fun n hn => ?_⟩, a6, fun x hx => ?_⟩
  · simp only [lessH, List.mem_cons, List.not_mem_nil, or_false] at hn
    rcases hn with rfl | rfl <;> omega
  · obtain ⟨e1, e2, e3⟩ := a7 x hx
    exact ⟨e1, e2, e3⟩
section
variable {h : Hs} {b : List En} {r : Rl}
theorem less_acc (h : Hs) (b : List En) (w : Int) (s : Nat) : acc (lessH h) b w s nof = { acc h b w s nof with lo := nth (lessH h).lo s } := by
  have := acc_less (h := h) (g := lessH h) rfl rfl b w s nof b.length
  simpa [acc] using this
theorem Tru.less (t : Tru h b r) {w : Nat} (hw : w < 6) : T07.hasErr (lessH h) b w = 0 ∧ T07.hasR (lessH h) b w = hasL (lessH h) b w 2 ∧
    ∀ s : Nat, s < 2 → (T07.has (acc h b w s nof)).1 ≤ (T07.has (acc (lessH h) b w s nof)).1 ∧ (T07.has (acc (lessH h) b w s nof)).2 = (T07.has (acc h b w s nof)).2 := by
  have two := t.two
  have ok := lessH_ok t.t.ok two
  have hh : ∀ (w : Int) (s : Nat), T07.high (acc (lessH h) b w s nof) = T07.high (acc h b w s nof) := fun w s => by rw [less_acc]; rfl
  have tb : trueB (lessH h) b nof = true := trueB_iff.2 fun w hw => okW_iff.2 fun s hs => by
    rw [hh]
    exact t.high0 w (by have : s < h.tk.length := hs
                        omega)
  have eo : openErr (lessH h) b = 0 := by
    unfold openErr
    rw [check_back ok, if_neg (by simp), tb, if_pos rfl]
  have e : T07.hasErr (lessH h) b w = 0 := by
    unfold T07.hasErr
    rw [eo, if_neg (by simp), if_pos (by simp [isWorker, betw]; omega)]
  refine ⟨e, ?_, fun s hs => ⟨?_, hh w s⟩⟩
  · unfold T07.hasR
    rw [e, if_pos rfl]
    show hasL _ _ _ h.tk.length = _
    rw [two]
  · rw [less_acc]
    have bd := acc_bd t.t.ok (w := w) (s := s) (by omega) nof
    have lo := acc_lo0 h b w s nof
    have l0 := t.lo (s := 0) (by omega)
    have l1 := t.lo (s := 1) (by omega)
    have hl : 0 ≤ nth (lessH h).lo s ∧ nth (lessH h).lo s ≤ nth h.lo s := by
      obtain rfl | rfl : s = 0 ∨ s = 1 := by omega
      · show 0 ≤ nth h.lo 0 / 2 ∧ nth h.lo 0 / 2 ≤ nth h.lo 0
        omega
      · exact ⟨Int.le_refl _, l1.1⟩
    have m := Int.mul_le_mul_of_nonneg_left hl.2 bd.o.1
    unfold T07.has loss
    simp only
    rw [lo]
    omega
end
/-- Other scales. -/
def scH (h : Hs) (n : Int) : Hs := ⟨n, h.tk, h.lo⟩
theorem scH_ok {h : Hs} {b : List En} (ok : Ok h b) {n : Int} (hn : 0 ≤ n ∧ n ≤ 100) : Ok (scH h n) b := by
  obtain ⟨⟨a1, a2, a3, a4, a5⟩, a6, a7⟩ := ok
  exact ⟨⟨hn, a2, a3, a4, a5⟩, a6, fun x hx => by obtain ⟨e1, e2, e3⟩ := a7 x hx; exact ⟨e1, e2, e3⟩⟩
structure Wide (a c : Ac) : Prop where
  o : c.o1 ≤ a.o1 ∧ a.o2 ≤ c.o2
  b : c.b1 ≤ a.b1 ∧ a.b2 ≤ c.b2
  f : c.f1 = a.f1 ∧ c.f2 = a.f2
  l : c.lo = a.lo
theorem acc_wide {h g : Hs} (h1 : h.sc ≤ g.sc) (h2 : g.tk = h.tk) (h3 : g.lo = h.lo) (b : List En) (w s : Int) : ∀ n, Wide (accN h b w s nof n) (accN g b w s nof n)
  | 0 => by
    refine ⟨?_, ?_, ?_, ?_⟩ <;> simp [accN, h3]
  | n + 1 => by
    obtain ⟨i1, i2, i3, i4⟩ := acc_wide h1 h2 h3 b w s n
    rw [accN, accN]
    unfold accS cnt wgt
    simp only [nof, Bool.false_eq_true, if_false]
    rw [h2]
    split
    · exact ⟨i1, i2, i3, i4⟩
    · split
      · refine ⟨i1, i2, ?_, i4⟩
        simp only
        omega
      · split
        · exact ⟨i1, i2, i3, i4⟩
        · split
          · refine ⟨?_, i2, i3, i4⟩
            simp only
            omega
          · refine ⟨i1, ?_, i3, i4⟩
            simp only
            omega
/-- With better scales nothing is wider. -/
theorem scales_ok {h : Hs} {b : List En} (ok : Ok h b) (two : h.tk.length = 2) {n m : Int} (hn : 0 ≤ n ∧ n ≤ m ∧ m ≤ 100) {w : Nat} (hw : w < 6) :
    (hasErr (scH h n) b w = 9) ∨ (hasErr (scH h n) b w = 0 ∧ hasR (scH h n) b w = hasL (scH h n) b w 2 ∧ hasErr (scH h m) b w = 0 ∧ hasR (scH h m) b w = hasL (scH h m) b w 2 ∧
      ∀ s : Nat, s < 2 → (has (acc (scH h m) b w s nof)).1 ≤ (has (acc (scH h n) b w s nof)).1 ∧ (has (acc (scH h n) b w s nof)).2 ≤ (has (acc (scH h m) b w s nof)).2) := by
  have ok1 := scH_ok ok (n := n) (by omega)
  have ok2 := scH_ok ok (n := m) (by omega)
  have e : ∀ k : Int, Ok (scH h k) b → hasErr (scH h k) b w = if trueB (scH h k) b nof then 0 else 9 := fun k hk => by
    have eo : openErr (scH h k) b = if trueB (scH h k) b nof then 0 else 9 := by
      unfold openErr
      rw [check_back hk, if_neg (by simp)]
    unfold hasErr
    rw [eo]
    split
    · rw [if_neg (by simp), if_pos (by simp [isWorker, betw]; omega)]
    · rw [if_pos (by simp)]
  have wd : ∀ (w s : Int), Wide (acc (scH h n) b w s nof) (acc (scH h m) b w s nof) := fun w s => acc_wide (h := scH h n) (g := scH h m) hn.2.1 rfl rfl b w s b.length
  rw [e n ok1, e m ok2]
  cases ht : trueB (scH h n) b nof with
  | false => exact .inl rfl
  | true =>
    refine .inr ⟨rfl, ?_, ?_, ?_, fun s hs => ?_⟩
    · unfold hasR
      rw [e n ok1, ht, if_pos rfl, if_pos rfl]
      show hasL _ _ _ h.tk.length = _
      rw [two]
    · rw [if_pos]
      refine trueB_iff.2 fun w hw => okW_iff.2 fun s hs => ?_
      have a := okW_iff.1 (trueB_iff.1 ht w hw) s hs
      obtain ⟨w1, w2, w3, w4⟩ := wd w s
      unfold high at *
      omega
    · have tb : trueB (scH h m) b nof = true := by
        refine trueB_iff.2 fun w hw => okW_iff.2 fun s hs => ?_
        have a := okW_iff.1 (trueB_iff.1 ht w hw) s hs
        obtain ⟨w1, w2, w3, w4⟩ := wd w s
        unfold high at *
        omega
      unfold hasR
      rw [e m ok2, tb, if_pos rfl, if_pos rfl]
      show hasL _ _ _ h.tk.length = _
      rw [two]
    · obtain ⟨w1, w2, w3, w4⟩ := wd w s
      have lo := ok.hs.los _ (nth_mem (l := h.lo) (i := s) (by have := ok.hs.lo; omega))
      have l1 := acc_lo0 (scH h n) b w s nof
      have l2 : (scH h n).lo = h.lo := rfl
      rw [l2] at l1
      rw [← l1] at lo
      have mm := (loss_mono lo w1.1).1
      unfold has loss high
      simp only
      rw [w4]
      omega
/-- Handed over. -/
def handB (n : Int) : List En := [⟨4, 1, 0, n⟩, ⟨5, 2, 0, n⟩, ⟨4, 1, 0, 0⟩]
theorem hand_ok {h : Hs} (hh : OkH h) {n : Int} (hn : 0 ≤ n ∧ n ≤ 1000) : Ok h (handB n) := by
  have := hh.tk
  refine ⟨hh, by simp [handB], fun x hx => ?_⟩
  simp only [handB, List.mem_cons, List.not_mem_nil, or_false] at hx
  rcases hx with rfl | rfl | rfl
  all_goals
    refine ⟨by simp, .inl ⟨by simp, by simp, by simp only; omega⟩, ?_⟩
    unfold mostE
    rw [if_neg (by simp)]
    simp only
    omega
theorem hand_high (h : Hs) (n : Int) (hs : 0 ≤ h.sc) (w : Nat) {s : Nat} (h2 : s < 2) : high (acc h (handB n) w s nof) = if s = 0 then (if w = 4 then n + h.sc + h.sc else if w = 5 then - max 0 (n - h.sc) else 0) else 0 := by
  have e : handB n = (([] ++ [⟨4, 1, 0, n⟩]) ++ [⟨5, 2, 0, n⟩]) ++ [⟨4, 1, 0, 0⟩] := rfl
  have z : acc h [] w s nof = ⟨0, 0, 0, 0, 0, 0, nth h.lo s⟩ := by simp [acc, accN]
  rw [e, acc_push, accS_out, acc_push, accS_back, acc_push, accS_out, z]
  obtain rfl | rfl : s = 0 ∨ s = 1 := by omega
  · rw [if_pos rfl]
    by_cases w4 : w = 4
    · subst w4
      simp [high]
    · by_cases w5 : w = 5
      · subst w5
        simp [high]
      · rw [if_neg w4, if_neg w5, if_neg (by omega), if_neg (by omega), if_neg (by omega)]
        rfl
  · rw [if_neg (by omega), if_neg (by omega), if_neg (by omega), if_neg (by omega)]
    simp [high]
theorem hand_mv (h : Hs) (n : Int) (hn : 0 ≤ n) (hs : 0 ≤ h.sc) : (mvN h (handB n) 0 6).1 = max 0 (n - h.sc) ∧ 0 ≤ (mvN h (handB n) 0 6).2 ∧ (mvN h (handB n) 1 6).1 = 0 ∧ 0 ≤ (mvN h (handB n) 1 6).2 := by
  have g0 : ∀ w : Nat, high (acc h (handB n) w 0 nof) = if w = 4 then n + h.sc + h.sc else if w = 5 then - max 0 (n - h.sc) else 0 := fun w => by
    have := hand_high h n hs w (s := 0) (by omega)
    rw [if_pos rfl] at this
    exact this
  have g1 : ∀ w : Nat, high (acc h (handB n) w 1 nof) = 0 := fun w => by
    have := hand_high h n hs w (s := 1) (by omega)
    rw [if_neg (by omega)] at this
    exact this
  have a0 := g0 0
  have a1 := g0 1
  have a2 := g0 2
  have a3 := g0 3
  have a4 := g0 4
  have a5 := g0 5
  rw [if_neg (by omega), if_neg (by omega)] at a0 a1 a2 a3
  rw [if_pos rfl] at a4
  rw [if_neg (by omega), if_pos rfl] at a5
  have c0 := g1 0
  have c1 := g1 1
  have c2 := g1 2
  have c3 := g1 3
  have c4 := g1 4
  have c5 := g1 5
  simp only [mvN]
  rw [a0, a1, a2, a3, a4, a5, c0, c1, c2, c3, c4, c5]
  omega
theorem hand_moved {h : Hs} (hh : OkH h) (two : h.tk.length = 2) {n : Int} (hn : 0 ≤ n ∧ n ≤ 1000) : movedErr h (handB n) = 0 ∧ movedR h (handB n) = [max 0 (n - h.sc), 0] := by
  obtain ⟨m1, m2, m3, m4⟩ := hand_mv h n hn.1 hh.sc.1
  have e : movedErr h (handB n) = 0 := by
    unfold movedErr
    rw [check_back (hand_ok hh hn), if_neg (by simp), if_neg]
    unfold movedBad
    rw [two]
    simp only [Bool.not_eq_true, List.any_eq_false, decide_eq_true_eq]
    intro s hs
    have := List.mem_range.1 hs
    obtain rfl | rfl : s = 0 ∨ s = 1 := by omega
    · have : (mvN h (handB n) ((0 : Nat) : Int) 6).2 = (mvN h (handB n) 0 6).2 := rfl
      omega
    · have : (mvN h (handB n) ((1 : Nat) : Int) 6).2 = (mvN h (handB n) 1 6).2 := rfl
      omega
  refine ⟨e, ?_⟩
  unfold movedR
  rw [e, if_pos rfl, two]
  show [(mvN h (handB n) 0 6).1, (mvN h (handB n) 1 6).1] = _
  rw [m1, m3]
end Go.Proofs.Ytninkfpeeemcoaa.Ab.T07
