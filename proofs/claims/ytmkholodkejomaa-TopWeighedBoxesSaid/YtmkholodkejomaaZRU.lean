/- What the workers have by the book: plain. -/
import Derived.Test.YtmkholodkejomaaZRT
namespace Go.Proofs.Ytmkholodkejomaa.Ab.T08
open Go Go.RowKit
set_option linter.unusedVariables false
set_option linter.unusedSimpArgs false
set_option maxRecDepth 100000
def gH (sc : Int) : T07.Hs := ⟨sc, [(0, 0)], [0]⟩
theorem gBook_nth {bs : List (Int × Int)} {n i : Nat} (h : i < n) : nth (gBook bs n) i = ⟨(gW bs i : Int), 1, 0, gV bs i⟩ := nth_rng h
theorem g_acc (sc : Int) (bs : List (Int × Int)) (n w : Nat) : ∀ i, i ≤ n → T07.accN (gH sc) (gBook bs n) w 0 T07.nof i = ⟨gLow sc bs i w, gHigh sc bs i w, 0, 0, 0, 0, 0⟩
  | 0, _ => rfl
  | i + 1, h => by
    rw [T07.accN, g_acc sc bs n w i (by omega), gBook_nth (by omega), gLow, gHigh]
    unfold T07.accS
    by_cases e : gW bs i = w
    · have e' : ¬ ((gW bs i : Nat) : Int) ≠ (w : Int) := by omega
      simp only
      rw [if_neg e', if_neg (by omega), if_neg (by omega), if_pos trivial, if_pos e, if_pos e]
      rfl
    · have e' : ((gW bs i : Nat) : Int) ≠ (w : Int) := by omega
      simp only
      rw [if_pos e', if_neg e, if_neg e, Int.add_zero, Int.add_zero]
theorem g_check {sc : Int} {bs : List (Int × Int)} (hb : ∀ s ∈ bs, B2 s) (hs : 0 ≤ sc ∧ sc < 20) : T07.checkErr (gH sc) (gBook bs (nG bs)) = 0 := by
  have h8 : nG bs ≤ 8 := by unfold nG; omega
  have o0 : T07.okB (gH sc) (gBook bs (nG bs)) 0 = true := by simp [T07.okB, betw, gH]; omega
  have o1 : T07.okB (gH sc) (gBook bs (nG bs)) 1 = true := by simp [T07.okB, betw, gH]
  have o2 : T07.okB (gH sc) (gBook bs (nG bs)) 2 = true := by simp [T07.okB, betw, gH, T07.isTakes]
  have o3 : T07.okB (gH sc) (gBook bs (nG bs)) 3 = true := by simp [T07.okB, gBook_len]; omega
  have o4 : T07.okB (gH sc) (gBook bs (nG bs)) 4 = true := by
    simp only [T07.okB, Bool.not_eq_true', List.any_eq_false]
    intro x hx
    obtain ⟨j, hj, rfl⟩ := List.mem_map.1 hx
    have := gW_lt bs j
    simp [T07.isEntry, T07.isWorker, T07.isStuff, betw, gH]
    omega
  have o5 : T07.okB (gH sc) (gBook bs (nG bs)) 5 = true := by
    simp only [T07.okB, Bool.not_eq_true', List.any_eq_false]
    intro x hx
    obtain ⟨j, hj, rfl⟩ := List.mem_map.1 hx
    have := gV_bd hb (List.mem_range.1 hj)
    simp [T07.fits, T07.mostE, betw]
    omega
  unfold T07.checkErr
  simp only [T07.checkFrom, o0, o1, o2, o3, o4, o5, Nat.sub_self, Nat.reduceSub, if_true]
theorem g_has {sc : Int} {bs : List (Int × Int)} (hb : ∀ s ∈ bs, B2 s) (hs : 0 ≤ sc ∧ sc < 20) {w : Nat} (hw : w < 2) : T07.hasErr (gH sc) (gBook bs (nG bs)) w = 0 ∧ T07.hasR (gH sc) (gBook bs (nG bs)) w = [(gLow sc bs (nG bs) w, gHigh sc bs (nG bs) w)] := by
  have a : ∀ w : Nat, T07.acc (gH sc) (gBook bs (nG bs)) w 0 T07.nof = ⟨gLow sc bs (nG bs) w, gHigh sc bs (nG bs) w, 0, 0, 0, 0, 0⟩ := fun w => by
    unfold T07.acc
    rw [gBook_len]
    exact g_acc sc bs (nG bs) w (nG bs) (Nat.le_refl _)
  have tb : T07.trueB (gH sc) (gBook bs (nG bs)) T07.nof = true := T07.trueB_iff.2 fun w hw => T07.okW_iff.2 fun s hs2 => by
    have hs2 : s < 1 := hs2
    obtain rfl : s = 0 := by omega
    have sb := gSum_bd hb hs w (nG bs) (Nat.le_refl _)
    rw [show ((0 : Nat) : Int) = 0 from rfl, a w]
    simp only [T07.high]
    omega
  have ho : T07.openErr (gH sc) (gBook bs (nG bs)) = 0 := by
    unfold T07.openErr
    rw [g_check hb hs, tb]
    simp
  have e : T07.hasErr (gH sc) (gBook bs (nG bs)) w = 0 := by
    unfold T07.hasErr
    rw [ho]
    have : T07.isWorker (w : Int) = true := by simp [T07.isWorker, betw]; omega
    rw [this]
    simp
  refine ⟨e, ?_⟩
  unfold T07.hasR
  rw [if_pos e]
  have sb := gSum_bd hb hs w (nG bs) (Nat.le_refl _)
  have hl : (gH sc).tk.length = 1 := rfl
  rw [hl]
  unfold T07.hasL
  simp only [List.range_one, List.map_cons, List.map_nil]
  rw [show ((0 : Nat) : Int) = 0 from rfl, a w]
  unfold T07.has T07.high T07.loss
  simp only
  congr 1
  refine Prod.ext ?_ ?_
  · simp only
    omega
  · simp only
    omega
/-- The house's contract, for this house and this book. -/
theorem ghas_spec {sc : Int} {bs : List (Int × Int)} (hb : ∀ s ∈ bs, B2 s) (hs : 0 ≤ sc ∧ sc < 20) {w : Nat} (hw : w < 2) : SpecF Try.prog 12 [.agg [.v (.int .i64 sc), .sl 2 [[.v (.int .i64 0), .v (.int .i64 0)]], .sl 1 [[.v (.int .i64 0)]]], .sl 4 ((gBook bs (nG bs)).map T07.enR), .v (.int .i64 w)] (.tup [.sl 2 [[.v (.int .i64 (gLow sc bs (nG bs) w)), .v (.int .i64 (gHigh sc bs (nG bs) w))]], .v (.int .i64 0)]) [] := by
  obtain ⟨e1, e2⟩ := g_has hb hs hw
  have h := (T07.has1_spec (gH sc) (gBook bs (nG bs)) w (by simp [gH]) (by simp [gH]) (by rw [gBook_len]; unfold nG; omega)).frz
  rw [e1, e2] at h
  exact h
end Go.Proofs.Ytmkholodkejomaa.Ab.T08
