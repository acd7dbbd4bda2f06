/- The piercer: how many sticks stay whole, how many must be given. -/
import Derived.Test.YtdgeocjchnandaaZU1
namespace Go.Proofs.Ytdgeocjchnandaa.Ab
open Go Go.RowKit
set_option linter.unusedVariables false
set_option linter.unusedSimpArgs false
set_option maxRecDepth 100000
theorem stick_bad : BadG 33 := by
  intro n lo hi
  refine spec_go (N := 13) (rs := [.tmp 4]) (eq := eqs) rfl rfl fun_33 rfl (by kernel_rfl) (by kernel_rfl) (by simp) (by simp) (by simp) (by simp) fun R hR => ?_
  simp (maxSteps := 2000000) only [vcA, ↓vcP, ↓reduceIte, reduceCtorEq, Nat.reduceAdd, Nat.reduceMul, Nat.reduceSub, Nat.reduceLT, Nat.reduceLeDiff, Nat.reduceEqDiff, Nat.reduceBEq, Nat.reduceBNe, Nat.reduceGT, Nat.reduceDiv, Nat.reduceMod, Int.reduceAdd, Int.reduceSub, Int.reduceNeg, Int.reduceLT, Int.reduceLE, Int.reduceEq, Int.reduceToNat, fA]
  refine ⟨fun h => hR _ (fin_of1 [] ?_), fun h => hR _ (fin_of1 [] ?_)⟩
  · simp (maxSteps := 2000000) only [enA, ↓enP, Nat.reduceAdd, Nat.reduceMul, Nat.reduceSub, Nat.reduceLT, Nat.reduceLeDiff, Nat.reduceEqDiff, Nat.reduceBEq, ↓reduceIte, reduceCtorEq, fA]
    simp [bad]; omega
  · simp (maxSteps := 2000000) only [enA, ↓enP, Nat.reduceAdd, Nat.reduceMul, Nat.reduceSub, Nat.reduceLT, Nat.reduceLeDiff, Nat.reduceEqDiff, Nat.reduceBEq, ↓reduceIte, reduceCtorEq, fA]
    simp [bad]; omega
theorem stick_within (lo hi : Int) (l : List Int) (hl : l.length < 1000000) : SpecF Try.prog 20 [.v (.int .i64 lo), .v (.int .i64 hi), .sl 1 (l.map iR)] (.v (.bool (betw lo hi l))) [] := by
  rw [← betw_idx]
  refine spec_go (N := 11) (rs := [.tmp 6]) (eq := eqs) rfl rfl fun_20 rfl (by kernel_rfl) (by kernel_rfl) (by simp) (by simp) (by simp) (by simp) fun R hR => ?_
  simp (maxSteps := 2000000) only [vcA, ↓vcP, ↓reduceIte, reduceCtorEq, Nat.reduceAdd, Nat.reduceMul, Nat.reduceSub, Nat.reduceLT, Nat.reduceLeDiff, Nat.reduceEqDiff, Nat.reduceBEq, Nat.reduceBNe, Nat.reduceGT, Nat.reduceDiv, Nat.reduceMod, Int.reduceAdd, Int.reduceSub, Int.reduceNeg, Int.reduceLT, Int.reduceLE, Int.reduceEq, Int.reduceToNat, fA]
  refine onF_call (contains_spec stick_bad lo hi l hl) [] [] [8, 16] ?_ ?_
  · simp (maxSteps := 2000000) only [okA, ↓okP, Nat.reduceAdd, Nat.reduceMul, Nat.reduceSub, Nat.reduceLT, Nat.reduceLeDiff, Nat.reduceEqDiff, Nat.reduceBEq, ↓reduceIte, reduceCtorEq]
  · simp (maxSteps := 2000000) only [vcA, ↓vcP, ↓reduceIte, reduceCtorEq, Nat.reduceAdd, Nat.reduceMul, Nat.reduceSub, Nat.reduceLT, Nat.reduceLeDiff, Nat.reduceEqDiff, Nat.reduceBEq, Nat.reduceBNe, Nat.reduceGT, Nat.reduceDiv, Nat.reduceMod, Int.reduceAdd, Int.reduceSub, Int.reduceNeg, Int.reduceLT, Int.reduceLE, Int.reduceEq, Int.reduceToNat, fA]
    refine hR _ (fin_of0 ?_)
    simp (maxSteps := 2000000) only [enA, ↓enP, Nat.reduceAdd, Nat.reduceMul, Nat.reduceSub, Nat.reduceLT, Nat.reduceLeDiff, Nat.reduceEqDiff, Nat.reduceBEq, ↓reduceIte, reduceCtorEq, fA]

def brk (o h n : Int) : Int := n / o * h + min (n % o) h
theorem breaks_spec (o h n : Int) (ho : 2 ≤ o ∧ o ≤ 10) (hh : 0 ≤ h ∧ h ≤ o) (hn : 0 ≤ n ∧ n ≤ 1000000) : SpecF Try.prog 22 [.agg [.v (.int .i64 o), .v (.int .i64 h)], .v (.int .i64 n)] (.v (.int .i64 (brk o h n))) [] := by
  refine spec_go (N := 24) (rs := [.tmp 4]) (eq := eqs) rfl rfl fun_22 rfl (by kernel_rfl) (by kernel_rfl) (by simp) (by simp) (by simp) (by simp) fun R hR => ?_
  simp (maxSteps := 2000000) only [vcA, ↓vcP, ↓reduceIte, reduceCtorEq, Nat.reduceAdd, Nat.reduceMul, Nat.reduceSub, Nat.reduceLT, Nat.reduceLeDiff, Nat.reduceEqDiff, Nat.reduceBEq, Nat.reduceBNe, Nat.reduceGT, Nat.reduceDiv, Nat.reduceMod, Int.reduceAdd, Int.reduceSub, Int.reduceNeg, Int.reduceLT, Int.reduceLE, Int.reduceEq, Int.reduceToNat, fA]
  refine ⟨by omega, fun _ => ⟨by omega, fun _ => hR _ (fin_of0 ?_)⟩⟩
  simp (maxSteps := 2000000) only [enA, ↓enP, Nat.reduceAdd, Nat.reduceMul, Nat.reduceSub, Nat.reduceLT, Nat.reduceLeDiff, Nat.reduceEqDiff, Nat.reduceBEq, ↓reduceIte, reduceCtorEq, fA]
  have h1 : 0 ≤ n / o := Int.ediv_nonneg hn.1 (by omega)
  have h2 : n / o ≤ n := Int.ediv_le_self o hn.1
  have h3 : 0 ≤ n / o * h := Int.mul_nonneg h1 hh.1
  have h4 : n / o * h ≤ n / o * o := Int.mul_le_mul_of_nonneg_left hh.2 h1
  have h5 : n / o * o ≤ n := Int.ediv_mul_le n (by omega)
  have h6 : 0 ≤ n % o := Int.emod_nonneg n (by omega)
  have h7 : n % o < o := Int.emod_lt_of_pos n (by omega)
  rw [quo_of hn.1, rem_of hn.1, wrap_id (x := n / o) (by omega) (by omega), wrap_id (x := n / o * h) (by omega) (by omega), wrap_id (by omega) (by omega)]
  rfl
theorem isPiercer_spec (o h : Int) : SpecF Try.prog 19 [.agg [.v (.int .i64 o), .v (.int .i64 h)]] (.v (.bool (betw 2 10 [o] && betw 0 o [h]))) [] := by
  refine spec_go (N := 15) (rs := [.tmp 2]) (eq := eqs) rfl rfl fun_19 rfl (by kernel_rfl) (by kernel_rfl) (by simp) (by simp) (by simp) (by simp) fun R hR => ?_
  simp (maxSteps := 2000000) only [vcA, ↓vcP, ↓reduceIte, reduceCtorEq, Nat.reduceAdd, Nat.reduceMul, Nat.reduceSub, Nat.reduceLT, Nat.reduceLeDiff, Nat.reduceEqDiff, Nat.reduceBEq, Nat.reduceBNe, Nat.reduceGT, Nat.reduceDiv, Nat.reduceMod, Int.reduceAdd, Int.reduceSub, Int.reduceNeg, Int.reduceLT, Int.reduceLE, Int.reduceEq, Int.reduceToNat, fA]
  refine onF_call3 (stick_within 2 10 [o] (by simp)) ?_ ?_
  · simp (maxSteps := 2000000) only [okA, ↓okP, Nat.reduceAdd, Nat.reduceMul, Nat.reduceSub, Nat.reduceLT, Nat.reduceLeDiff, Nat.reduceEqDiff, Nat.reduceBEq, ↓reduceIte, reduceCtorEq]
    rfl
  simp (maxSteps := 2000000) only [vcA, ↓vcP, ↓reduceIte, reduceCtorEq, Nat.reduceAdd, Nat.reduceMul, Nat.reduceSub, Nat.reduceLT, Nat.reduceLeDiff, Nat.reduceEqDiff, Nat.reduceBEq, Nat.reduceBNe, Nat.reduceGT, Nat.reduceDiv, Nat.reduceMod, Int.reduceAdd, Int.reduceSub, Int.reduceNeg, Int.reduceLT, Int.reduceLE, Int.reduceEq, Int.reduceToNat, fA]
  refine ⟨fun h1 => ?_, fun h1 => hR _ (fin_of0 ?_)⟩
  · refine onF_call3 (stick_within 0 o [h] (by simp)) ?_ ?_
    · simp (maxSteps := 2000000) only [okA, ↓okP, Nat.reduceAdd, Nat.reduceMul, Nat.reduceSub, Nat.reduceLT, Nat.reduceLeDiff, Nat.reduceEqDiff, Nat.reduceBEq, ↓reduceIte, reduceCtorEq]
      rfl
    simp (maxSteps := 2000000) only [vcA, ↓vcP, ↓reduceIte, reduceCtorEq, Nat.reduceAdd, Nat.reduceMul, Nat.reduceSub, Nat.reduceLT, Nat.reduceLeDiff, Nat.reduceEqDiff, Nat.reduceBEq, Nat.reduceBNe, Nat.reduceGT, Nat.reduceDiv, Nat.reduceMod, Int.reduceAdd, Int.reduceSub, Int.reduceNeg, Int.reduceLT, Int.reduceLE, Int.reduceEq, Int.reduceToNat, fA]
    refine hR _ (fin_of0 ?_)
    simp (maxSteps := 2000000) only [enA, ↓enP, Nat.reduceAdd, Nat.reduceMul, Nat.reduceSub, Nat.reduceLT, Nat.reduceLeDiff, Nat.reduceEqDiff, Nat.reduceBEq, ↓reduceIte, reduceCtorEq, fA]
    simp [h1]
  · simp (maxSteps := 2000000) only [enA, ↓enP, Nat.reduceAdd, Nat.reduceMul, Nat.reduceSub, Nat.reduceLT, Nat.reduceLeDiff, Nat.reduceEqDiff, Nat.reduceBEq, ↓reduceIte, reduceCtorEq, fA]
    simp [h1]
/-- What stays whole, and the error. -/
def whole (o h n : Int) : Int × Int × Int := if betw 2 10 [o] && betw 0 o [h] then (if betw 0 1000000 [n] then (n - brk o h n, n, 0) else (0, 0, 3)) else (0, 0, 2)
theorem brk_bound {o h n : Int} (ho : 2 ≤ o ∧ o ≤ 10) (hh : 0 ≤ h ∧ h ≤ o) (hn : 0 ≤ n) : 0 ≤ brk o h n ∧ brk o h n ≤ n := by
  have h1 : 0 ≤ n / o := Int.ediv_nonneg hn (by omega)
  have h3 : 0 ≤ n / o * h := Int.mul_nonneg h1 hh.1
  have h4 : n / o * h ≤ n / o * o := Int.mul_le_mul_of_nonneg_left hh.2 h1
  have h8 : n / o * o + n % o = n := by rw [Int.mul_comm]; exact Int.mul_ediv_add_emod n o
  have h6 : 0 ≤ n % o := Int.emod_nonneg n (by omega)
  unfold brk
  omega
theorem whole_spec (o h n : Int) : SpecF Try.prog 10 [.agg [.v (.int .i64 o), .v (.int .i64 h)], .v (.int .i64 n)] (.tup [.agg [.v (.int .i64 (whole o h n).1), .v (.int .i64 (whole o h n).2.1)], .v (.int .i64 (whole o h n).2.2)]) [] := by
  refine spec_go (N := 25) (rs := [.cell 4 48, .tmp 5]) (eq := eqs) rfl rfl fun_10 rfl (by kernel_rfl) (by kernel_rfl) (by simp) (by simp) (by simp) (by simp) fun R hR => ?_
  simp (maxSteps := 2000000) only [vcA, ↓vcP, ↓reduceIte, reduceCtorEq, Nat.reduceAdd, Nat.reduceMul, Nat.reduceSub, Nat.reduceLT, Nat.reduceLeDiff, Nat.reduceEqDiff, Nat.reduceBEq, Nat.reduceBNe, Nat.reduceGT, Nat.reduceDiv, Nat.reduceMod, Int.reduceAdd, Int.reduceSub, Int.reduceNeg, Int.reduceLT, Int.reduceLE, Int.reduceEq, Int.reduceToNat, fA]
  refine onF_data (isPiercer_spec o h) ?_ ?_
  · simp (maxSteps := 2000000) only [okA, ↓okP, Nat.reduceAdd, Nat.reduceMul, Nat.reduceSub, Nat.reduceLT, Nat.reduceLeDiff, Nat.reduceEqDiff, Nat.reduceBEq, ↓reduceIte, reduceCtorEq]
  simp (maxSteps := 2000000) only [vcA, ↓vcP, ↓reduceIte, reduceCtorEq, Nat.reduceAdd, Nat.reduceMul, Nat.reduceSub, Nat.reduceLT, Nat.reduceLeDiff, Nat.reduceEqDiff, Nat.reduceBEq, Nat.reduceBNe, Nat.reduceGT, Nat.reduceDiv, Nat.reduceMod, Int.reduceAdd, Int.reduceSub, Int.reduceNeg, Int.reduceLT, Int.reduceLE, Int.reduceEq, Int.reduceToNat, fA]
  refine ⟨fun h1 => hR _ (fin_of0 ?_), fun h1 => ?_⟩
  · simp (maxSteps := 2000000) only [enA, ↓enP, Nat.reduceAdd, Nat.reduceMul, Nat.reduceSub, Nat.reduceLT, Nat.reduceLeDiff, Nat.reduceEqDiff, Nat.reduceBEq, ↓reduceIte, reduceCtorEq, fA]
    simp only [Bool.not_eq_true'] at h1
    simp [whole, h1]
  refine onF_call3 (stick_within 0 1000000 [n] (by simp)) ?_ ?_
  · simp (maxSteps := 2000000) only [okA, ↓okP, Nat.reduceAdd, Nat.reduceMul, Nat.reduceSub, Nat.reduceLT, Nat.reduceLeDiff, Nat.reduceEqDiff, Nat.reduceBEq, ↓reduceIte, reduceCtorEq]
    rfl
  simp (maxSteps := 2000000) only [vcA, ↓vcP, ↓reduceIte, reduceCtorEq, Nat.reduceAdd, Nat.reduceMul, Nat.reduceSub, Nat.reduceLT, Nat.reduceLeDiff, Nat.reduceEqDiff, Nat.reduceBEq, Nat.reduceBNe, Nat.reduceGT, Nat.reduceDiv, Nat.reduceMod, Int.reduceAdd, Int.reduceSub, Int.reduceNeg, Int.reduceLT, Int.reduceLE, Int.reduceEq, Int.reduceToNat, fA]
  simp only [Bool.not_eq_true', Bool.not_eq_false'] at h1
  refine ⟨fun h2 => hR _ (fin_of0 ?_), fun h2 => ?_⟩
  · simp (maxSteps := 2000000) only [enA, ↓enP, Nat.reduceAdd, Nat.reduceMul, Nat.reduceSub, Nat.reduceLT, Nat.reduceLeDiff, Nat.reduceEqDiff, Nat.reduceBEq, ↓reduceIte, reduceCtorEq, fA]
    simp only [Bool.not_eq_true'] at h2
    simp [whole, h1, h2]
  simp only [Bool.not_eq_false'] at h2
  have hp := Bool.and_eq_true_iff.1 h1
  refine onF_data (breaks_spec o h n (betw1 hp.1) (betw1 hp.2) (betw1 h2)) ?_ ?_
  · simp (maxSteps := 2000000) only [okA, ↓okP, Nat.reduceAdd, Nat.reduceMul, Nat.reduceSub, Nat.reduceLT, Nat.reduceLeDiff, Nat.reduceEqDiff, Nat.reduceBEq, ↓reduceIte, reduceCtorEq]
  simp (maxSteps := 2000000) only [vcA, ↓vcP, ↓reduceIte, reduceCtorEq, Nat.reduceAdd, Nat.reduceMul, Nat.reduceSub, Nat.reduceLT, Nat.reduceLeDiff, Nat.reduceEqDiff, Nat.reduceBEq, Nat.reduceBNe, Nat.reduceGT, Nat.reduceDiv, Nat.reduceMod, Int.reduceAdd, Int.reduceSub, Int.reduceNeg, Int.reduceLT, Int.reduceLE, Int.reduceEq, Int.reduceToNat, fA]
  refine hR _ (fin_of0 ?_)
  simp (maxSteps := 2000000) only [enA, ↓enP, Nat.reduceAdd, Nat.reduceMul, Nat.reduceSub, Nat.reduceLT, Nat.reduceLeDiff, Nat.reduceEqDiff, Nat.reduceBEq, ↓reduceIte, reduceCtorEq, fA]
  have hb := brk_bound (betw1 hp.1) (betw1 hp.2) (betw1 h2).1
  have hn := betw1 h2
  rw [wrap_id (by omega) (by omega)]
  simp [whole, h1, h2]
/-- One stick more: at most one more breaks. -/
theorem brk_step {o h n : Int} (ho : 2 ≤ o) (hh : 0 ≤ h ∧ h ≤ o) (hn : 0 ≤ n) : brk o h (n + 1) ≤ brk o h n + 1 := by
  have e1 : o * (n / o) + n % o = n := Int.mul_ediv_add_emod n o
  have b1 : 0 ≤ n % o := Int.emod_nonneg n (by omega)
  have b2 : n % o < o := Int.emod_lt_of_pos n (by omega)
  unfold brk
  by_cases c : n % o = o - 1
  · have eq : n + 1 = o * (n / o + 1) := by rw [Int.mul_add]; omega
    have d1 : (n + 1) / o = n / o + 1 := by rw [eq]; exact Int.mul_ediv_cancel_left _ (by omega)
    have d2 : (n + 1) % o = 0 := by rw [eq]; exact Int.mul_emod_right _ _
    rw [d1, d2, c, Int.add_mul]
    omega
  · have eq : n + 1 = (n % o + 1) + o * (n / o) := by omega
    have d1 : (n + 1) / o = n / o := by rw [eq, Int.add_mul_ediv_left _ _ (by omega), Int.ediv_eq_zero_of_lt (by omega) (by omega)]; omega
    have d2 : (n + 1) % o = n % o + 1 := by rw [eq, Int.add_mul_emod_self_left, Int.emod_eq_of_lt (by omega) (by omega)]
    rw [d1, d2]
    omega
def keep (o h : Int) (n : Nat) : Int := n - brk o h n
theorem keep_mono {o h : Int} (ho : 2 ≤ o) (hh : 0 ≤ h ∧ h ≤ o) {n : Nat} : ∀ d, keep o h n ≤ keep o h (n + d)
  | 0 => Int.le_refl _
  | d + 1 => by
    have h1 := keep_mono ho hh (n := n) d
    have h2 := brk_step (n := ((n + d : Nat) : Int)) ho hh (by omega)
    unfold keep at *
    rw [show ((n + (d + 1) : Nat) : Int) = ((n + d : Nat) : Int) + 1 by omega]
    omega
theorem keep_le {o h : Int} (ho : 2 ≤ o) (hh : 0 ≤ h ∧ h ≤ o) {n m : Nat} (hnm : n ≤ m) : keep o h n ≤ keep o h m := by
  have := keep_mono ho hh (n := n) (m - n)
  rw [show n + (m - n) = m by omega] at this
  exact this
theorem least_ex (p : Nat → Prop) (N : Nat) (h : p N) : ∃ g, g ≤ N ∧ p g ∧ ∀ n, n < g → ¬ p n := by
  induction N using Nat.strongRecOn with
  | _ N ih =>
    by_cases c : ∃ m, m < N ∧ p m
    · obtain ⟨m, h1, h2⟩ := c
      obtain ⟨g, g1, g2, g3⟩ := ih m h1 h2
      exact ⟨g, by omega, g2, g3⟩
    · exact ⟨N, Nat.le_refl _, h, fun n hn hp => c ⟨n, hn, hp⟩⟩
/-- Are so many too few. -/
theorem few_spec (o h w : Int) (n : Nat) (ho : 2 ≤ o ∧ o ≤ 10) (hh : 0 ≤ h ∧ h ≤ o) (hn : n ≤ 1000000) : SpecG Try.prog 21 [.v (.int .i64 n), .ptr 0 0, .ptr 1 0] [.box 45 [.v (.int .i64 o), .v (.int .i64 h)], .box 3 [.v (.int .i64 w)]] (.v (.bool (decide (keep o h n < w)))) [.box 45 [.v (.int .i64 o), .v (.int .i64 h)], .box 3 [.v (.int .i64 w)]] := by
  have hb := brk_bound ho hh (n := n) (by omega)
  have w1 : IntKind.i64.wrap ((n : Int) - brk o h n) = keep o h n := by rw [wrap_id (by omega) (by omega)]; rfl
  refine spec_go (N := 13) (rs := [.tmp 4]) (eq := eqs) rfl rfl fun_21 rfl (by kernel_rfl) (by kernel_rfl) (by simp) (by simp) (by simp) (by simp) fun R hR => ?_
  simp (maxSteps := 2000000) only [vcA, ↓vcP, ↓reduceIte, reduceCtorEq, Nat.reduceAdd, Nat.reduceMul, Nat.reduceSub, Nat.reduceLT, Nat.reduceLeDiff, Nat.reduceEqDiff, Nat.reduceBEq, Nat.reduceBNe, Nat.reduceGT, Nat.reduceDiv, Nat.reduceMod, Int.reduceAdd, Int.reduceSub, Int.reduceNeg, Int.reduceLT, Int.reduceLE, Int.reduceEq, Int.reduceToNat, fA]
  try repeat (first | refine ⟨by kernel_rfl, ?_⟩ | refine ⟨⟨by kernel_rfl, by kernel_rfl⟩, ?_⟩ | refine ⟨⟨by kernel_rfl, by kernel_rfl, by kernel_rfl⟩, ?_⟩ | refine ⟨⟨by kernel_rfl, by kernel_rfl, by kernel_rfl, by kernel_rfl⟩, ?_⟩ | refine ⟨⟨by kernel_rfl, by kernel_rfl, by kernel_rfl, by kernel_rfl, by kernel_rfl⟩, ?_⟩ | refine ⟨⟨by kernel_rfl, by kernel_rfl, by kernel_rfl, by kernel_rfl, by kernel_rfl, by kernel_rfl⟩, ?_⟩ | refine ⟨⟨by kernel_rfl, by kernel_rfl, by kernel_rfl, by kernel_rfl, by kernel_rfl, by kernel_rfl, by kernel_rfl⟩, ?_⟩ | refine ⟨⟨by kernel_rfl, by kernel_rfl, by kernel_rfl, by kernel_rfl, by kernel_rfl, by kernel_rfl, by kernel_rfl, by kernel_rfl⟩, ?_⟩ | refine ⟨⟨by kernel_rfl, by kernel_rfl, by kernel_rfl, by kernel_rfl, by kernel_rfl, by kernel_rfl, by kernel_rfl, by kernel_rfl, by kernel_rfl⟩, ?_⟩ | refine ⟨⟨by kernel_rfl, by kernel_rfl, by kernel_rfl, by kernel_rfl, by kernel_rfl, by kernel_rfl, by kernel_rfl, by kernel_rfl, by kernel_rfl, by kernel_rfl⟩, ?_⟩ | refine ⟨⟨by kernel_rfl, by kernel_rfl, by kernel_rfl, by kernel_rfl, by kernel_rfl, by kernel_rfl, by kernel_rfl, by kernel_rfl, by kernel_rfl, by kernel_rfl, by kernel_rfl⟩, ?_⟩ | refine ⟨⟨by kernel_rfl, by kernel_rfl, by kernel_rfl, by kernel_rfl, by kernel_rfl, by kernel_rfl, by kernel_rfl, by kernel_rfl, by kernel_rfl, by kernel_rfl, by kernel_rfl, by kernel_rfl⟩, ?_⟩ | refine ⟨⟨by kernel_rfl, by kernel_rfl, by kernel_rfl, by kernel_rfl, by kernel_rfl, by kernel_rfl, by kernel_rfl, by kernel_rfl, by kernel_rfl, by kernel_rfl, by kernel_rfl, by kernel_rfl, by kernel_rfl⟩, ?_⟩)
  refine onF_data (breaks_spec o h n ho hh (by omega)) ?_ ?_
  · simp (maxSteps := 2000000) only [okA, ↓okP, Nat.reduceAdd, Nat.reduceMul, Nat.reduceSub, Nat.reduceLT, Nat.reduceLeDiff, Nat.reduceEqDiff, Nat.reduceBEq, ↓reduceIte, reduceCtorEq]
  simp (maxSteps := 2000000) only [vcA, ↓vcP, ↓reduceIte, reduceCtorEq, Nat.reduceAdd, Nat.reduceMul, Nat.reduceSub, Nat.reduceLT, Nat.reduceLeDiff, Nat.reduceEqDiff, Nat.reduceBEq, Nat.reduceBNe, Nat.reduceGT, Nat.reduceDiv, Nat.reduceMod, Int.reduceAdd, Int.reduceSub, Int.reduceNeg, Int.reduceLT, Int.reduceLE, Int.reduceEq, Int.reduceToNat, fA, w1]
  by_cases c : keep o h n < w
  · have c1 : (keep o h n < w) = True := eq_true c
    try simp only [c1]
    refine hR _ (fin_of1 [] ?_)
    simp (maxSteps := 2000000) only [enA, ↓enP, Nat.reduceAdd, Nat.reduceMul, Nat.reduceSub, Nat.reduceLT, Nat.reduceLeDiff, Nat.reduceEqDiff, Nat.reduceBEq, ↓reduceIte, reduceCtorEq, fA, c1]
  · have c1 : (keep o h n < w) = False := eq_false c
    try simp only [c1]
    refine hR _ (fin_of1 [] ?_)
    simp (maxSteps := 2000000) only [enA, ↓enP, Nat.reduceAdd, Nat.reduceMul, Nat.reduceSub, Nat.reduceLT, Nat.reduceLeDiff, Nat.reduceEqDiff, Nat.reduceBEq, ↓reduceIte, reduceCtorEq, fA, c1]
theorem give_spec (o h w : Int) (ho : 2 ≤ o ∧ o ≤ 10) (hh : 0 ≤ h ∧ h * 2 ≤ o) (hw : 0 ≤ w ∧ w ≤ 1000) : ∃ g : Nat, g ≤ 1000000 ∧ (∀ n, n ≤ 1000000 → (g ≤ n ↔ w ≤ keep o h n)) ∧ SpecF Try.prog 8 [.agg [.v (.int .i64 o), .v (.int .i64 h)], .v (.int .i64 w)] (.tup [.v (.int .i64 g), .v (.int .i64 0)]) [] := by
  have hh2 : 0 ≤ h ∧ h ≤ o := by omega
  have hN : w ≤ keep o h 1000000 := by
    have h1 : (0 : Int) ≤ 1000000 / o := Int.ediv_nonneg (by omega) (by omega)
    have h4 : 1000000 / o * (h * 2) ≤ 1000000 / o * o := Int.mul_le_mul_of_nonneg_left hh.2 h1
    have h5 : 1000000 / o * o ≤ 1000000 := Int.ediv_mul_le 1000000 (by omega)
    have h6 : 1000000 / o * (h * 2) = 1000000 / o * h * 2 := by rw [Int.mul_assoc]
    show w ≤ ((1000000 : Nat) : Int) - brk o h ((1000000 : Nat) : Int)
    unfold brk
    simp only [Int.cast_ofNat_Int]
    omega
  obtain ⟨g, g1, g2, g3⟩ := least_ex (fun n => w ≤ keep o h n) 1000000 hN
  have hiff : ∀ n, g ≤ n ↔ w ≤ keep o h n := fun n => ⟨fun hn => by have := keep_le ho.1 hh2 hn; omega, fun hn => by
    by_cases c : g ≤ n
    · exact c
    · exact absurd hn (g3 n (by omega))⟩
  refine ⟨g, g1, fun n _ => hiff n, ?_⟩
  have b1 : betw 2 10 [o] = true := by simp [betw]; omega
  have b2 : betw 0 o [h] = true := by simp [betw]; omega
  have b3 : betw 0 1000000 [w] = true := by simp [betw]; omega
  have d0 : decide (keep o h 1000000 < w) = false := decide_eq_false (by omega)
  refine spec_go (N := 36) (rs := [.tmp 4, .tmp 5]) (eq := eqs) rfl rfl fun_8 rfl (by kernel_rfl) (by kernel_rfl) (by simp) (by simp) (by simp) (by simp) fun R hR => ?_
  simp (maxSteps := 2000000) only [vcA, ↓vcP, ↓reduceIte, reduceCtorEq, Nat.reduceAdd, Nat.reduceMul, Nat.reduceSub, Nat.reduceLT, Nat.reduceLeDiff, Nat.reduceEqDiff, Nat.reduceBEq, Nat.reduceBNe, Nat.reduceGT, Nat.reduceDiv, Nat.reduceMod, Int.reduceAdd, Int.reduceSub, Int.reduceNeg, Int.reduceLT, Int.reduceLE, Int.reduceEq, Int.reduceToNat, fA]
  refine onF_data (isPiercer_spec o h) ?_ ?_
  · simp (maxSteps := 2000000) only [okA, ↓okP, Nat.reduceAdd, Nat.reduceMul, Nat.reduceSub, Nat.reduceLT, Nat.reduceLeDiff, Nat.reduceEqDiff, Nat.reduceBEq, ↓reduceIte, reduceCtorEq]
  simp (maxSteps := 2000000) only [vcA, ↓vcP, ↓reduceIte, reduceCtorEq, Nat.reduceAdd, Nat.reduceMul, Nat.reduceSub, Nat.reduceLT, Nat.reduceLeDiff, Nat.reduceEqDiff, Nat.reduceBEq, Nat.reduceBNe, Nat.reduceGT, Nat.reduceDiv, Nat.reduceMod, Int.reduceAdd, Int.reduceSub, Int.reduceNeg, Int.reduceLT, Int.reduceLE, Int.reduceEq, Int.reduceToNat, fA, b1, b2]
  refine onF_call3 (stick_within 0 1000000 [w] (by simp)) ?_ ?_
  · simp (maxSteps := 2000000) only [okA, ↓okP, Nat.reduceAdd, Nat.reduceMul, Nat.reduceSub, Nat.reduceLT, Nat.reduceLeDiff, Nat.reduceEqDiff, Nat.reduceBEq, ↓reduceIte, reduceCtorEq]
    rfl
  rw [b3]
  simp (maxSteps := 2000000) only [vcA, ↓vcP, ↓reduceIte, reduceCtorEq, Nat.reduceAdd, Nat.reduceMul, Nat.reduceSub, Nat.reduceLT, Nat.reduceLeDiff, Nat.reduceEqDiff, Nat.reduceBEq, Nat.reduceBNe, Nat.reduceGT, Nat.reduceDiv, Nat.reduceMod, Int.reduceAdd, Int.reduceSub, Int.reduceNeg, Int.reduceLT, Int.reduceLE, Int.reduceEq, Int.reduceToNat, fA]
  refine onF_call (few_spec o h w 1000000 ho hh2 (by omega)) [] [] [8, 16] ?_ ?_
  · simp (maxSteps := 2000000) only [okA, ↓okP, Nat.reduceAdd, Nat.reduceMul, Nat.reduceSub, Nat.reduceLT, Nat.reduceLeDiff, Nat.reduceEqDiff, Nat.reduceBEq, ↓reduceIte, reduceCtorEq]
    rfl
  rw [d0]
  simp (maxSteps := 2000000) only [vcA, ↓vcP, ↓reduceIte, reduceCtorEq, Nat.reduceAdd, Nat.reduceMul, Nat.reduceSub, Nat.reduceLT, Nat.reduceLeDiff, Nat.reduceEqDiff, Nat.reduceBEq, Nat.reduceBNe, Nat.reduceGT, Nat.reduceDiv, Nat.reduceMod, Int.reduceAdd, Int.reduceSub, Int.reduceNeg, Int.reduceLT, Int.reduceLE, Int.reduceEq, Int.reduceToNat, fA]
  refine goC_loop (α := {p : Nat × Nat // p.1 ≤ g ∧ g ≤ p.2 ∧ p.2 ≤ 1000000}) (fun x => ⟨[(6, .fn 21 [.ptr 8 0, .ptr 16 0]), (7, .v (.int .i64 x.1.1)), (8, .v (.int .i64 x.1.2))], [(8, .box 45 [.v (.int .i64 o), .v (.int .i64 h)]), (16, .box 3 [.v (.int .i64 w)])]⟩) (fun x => x.1.2 - x.1.1) ⟨(0, 1000000), by omega, g1, by omega⟩ [] ?_ ?_
  · simp (maxSteps := 2000000) only [enA, ↓enP, Nat.reduceAdd, Nat.reduceMul, Nat.reduceSub, Nat.reduceLT, Nat.reduceLeDiff, Nat.reduceEqDiff, Nat.reduceBEq, ↓reduceIte, reduceCtorEq, fA]
    first | rfl | exact ⟨rfl, rfl⟩
  intro x B hB
  obtain ⟨⟨lo, hi⟩, hx⟩ := x
  simp only at hB hx ⊢
  by_cases c : lo < hi
  · obtain ⟨m, hm⟩ : ∃ m : Nat, m = (lo + hi) / 2 := ⟨_, rfl⟩
    have p1 : ((lo : Int) < (hi : Int)) = True := eq_true (by omega)
    have p1' : (lo < hi) = True := eq_true c
    have w1 : IntKind.i64.wrap ((lo : Int) + (hi : Int)) = ((lo + hi : Nat) : Int) := by rw [wrap_id (by omega) (by omega)]; omega
    have w2 : IntKind.i64.wrap (((lo + hi : Nat) : Int).tdiv 2) = (m : Int) := by rw [quo_of (by omega), wrap_id (by omega) (by omega)]; omega
    have w3 : IntKind.i64.wrap ((m : Int) + 1) = ((m + 1 : Nat) : Int) := wrap_id (by omega) (by omega)
    have hfm := few_spec o h w m ho hh2 (by omega)
    simp (maxSteps := 2000000) only [vcA, ↓vcP, ↓reduceIte, reduceCtorEq, Nat.reduceAdd, Nat.reduceMul, Nat.reduceSub, Nat.reduceLT, Nat.reduceLeDiff, Nat.reduceEqDiff, Nat.reduceBEq, Nat.reduceBNe, Nat.reduceGT, Nat.reduceDiv, Nat.reduceMod, Int.reduceAdd, Int.reduceSub, Int.reduceNeg, Int.reduceLT, Int.reduceLE, Int.reduceEq, Int.reduceToNat, fA, p1, p1', w1, w2]
    try repeat (first | refine ⟨by kernel_rfl, ?_⟩ | refine ⟨⟨by kernel_rfl, by kernel_rfl⟩, ?_⟩ | refine ⟨⟨by kernel_rfl, by kernel_rfl, by kernel_rfl⟩, ?_⟩ | refine ⟨⟨by kernel_rfl, by kernel_rfl, by kernel_rfl, by kernel_rfl⟩, ?_⟩ | refine ⟨⟨by kernel_rfl, by kernel_rfl, by kernel_rfl, by kernel_rfl, by kernel_rfl⟩, ?_⟩ | refine ⟨⟨by kernel_rfl, by kernel_rfl, by kernel_rfl, by kernel_rfl, by kernel_rfl, by kernel_rfl⟩, ?_⟩ | refine ⟨⟨by kernel_rfl, by kernel_rfl, by kernel_rfl, by kernel_rfl, by kernel_rfl, by kernel_rfl, by kernel_rfl⟩, ?_⟩ | refine ⟨⟨by kernel_rfl, by kernel_rfl, by kernel_rfl, by kernel_rfl, by kernel_rfl, by kernel_rfl, by kernel_rfl, by kernel_rfl⟩, ?_⟩ | refine ⟨⟨by kernel_rfl, by kernel_rfl, by kernel_rfl, by kernel_rfl, by kernel_rfl, by kernel_rfl, by kernel_rfl, by kernel_rfl, by kernel_rfl⟩, ?_⟩ | refine ⟨⟨by kernel_rfl, by kernel_rfl, by kernel_rfl, by kernel_rfl, by kernel_rfl, by kernel_rfl, by kernel_rfl, by kernel_rfl, by kernel_rfl, by kernel_rfl⟩, ?_⟩ | refine ⟨⟨by kernel_rfl, by kernel_rfl, by kernel_rfl, by kernel_rfl, by kernel_rfl, by kernel_rfl, by kernel_rfl, by kernel_rfl, by kernel_rfl, by kernel_rfl, by kernel_rfl⟩, ?_⟩ | refine ⟨⟨by kernel_rfl, by kernel_rfl, by kernel_rfl, by kernel_rfl, by kernel_rfl, by kernel_rfl, by kernel_rfl, by kernel_rfl, by kernel_rfl, by kernel_rfl, by kernel_rfl, by kernel_rfl⟩, ?_⟩ | refine ⟨⟨by kernel_rfl, by kernel_rfl, by kernel_rfl, by kernel_rfl, by kernel_rfl, by kernel_rfl, by kernel_rfl, by kernel_rfl, by kernel_rfl, by kernel_rfl, by kernel_rfl, by kernel_rfl, by kernel_rfl⟩, ?_⟩)
    refine onF_call hfm [] [] [8, 16] ?_ ?_
    · simp (maxSteps := 2000000) only [okA, ↓okP, Nat.reduceAdd, Nat.reduceMul, Nat.reduceSub, Nat.reduceLT, Nat.reduceLeDiff, Nat.reduceEqDiff, Nat.reduceBEq, ↓reduceIte, reduceCtorEq]
    by_cases cf : keep o h m < w
    · have e : decide (keep o h m < w) = true := decide_eq_true cf
      have hgm : ¬ g ≤ m := fun hg => by have := (hiff m).1 hg; omega
      rw [e]
      simp (maxSteps := 2000000) only [vcA, ↓vcP, ↓reduceIte, reduceCtorEq, Nat.reduceAdd, Nat.reduceMul, Nat.reduceSub, Nat.reduceLT, Nat.reduceLeDiff, Nat.reduceEqDiff, Nat.reduceBEq, Nat.reduceBNe, Nat.reduceGT, Nat.reduceDiv, Nat.reduceMod, Int.reduceAdd, Int.reduceSub, Int.reduceNeg, Int.reduceLT, Int.reduceLE, Int.reduceEq, Int.reduceToNat, fA, w3]
      refine hB _ ⟨(m + 1, hi), by simp only; omega⟩ [] (by simp only; omega) rfl ?_
      simp (maxSteps := 2000000) only [enA, ↓enP, Nat.reduceAdd, Nat.reduceMul, Nat.reduceSub, Nat.reduceLT, Nat.reduceLeDiff, Nat.reduceEqDiff, Nat.reduceBEq, ↓reduceIte, reduceCtorEq, fA, w3]
    · have e : decide (keep o h m < w) = false := decide_eq_false cf
      have hgm : g ≤ m := (hiff m).2 (by omega)
      rw [e]
      simp (maxSteps := 2000000) only [vcA, ↓vcP, ↓reduceIte, reduceCtorEq, Nat.reduceAdd, Nat.reduceMul, Nat.reduceSub, Nat.reduceLT, Nat.reduceLeDiff, Nat.reduceEqDiff, Nat.reduceBEq, Nat.reduceBNe, Nat.reduceGT, Nat.reduceDiv, Nat.reduceMod, Int.reduceAdd, Int.reduceSub, Int.reduceNeg, Int.reduceLT, Int.reduceLE, Int.reduceEq, Int.reduceToNat, fA]
      refine hB _ ⟨(lo, m), by simp only; omega⟩ [] (by simp only; omega) rfl ?_
      simp (maxSteps := 2000000) only [enA, ↓enP, Nat.reduceAdd, Nat.reduceMul, Nat.reduceSub, Nat.reduceLT, Nat.reduceLeDiff, Nat.reduceEqDiff, Nat.reduceBEq, ↓reduceIte, reduceCtorEq, fA]
  have p1 : ((lo : Int) < (hi : Int)) = False := eq_false (by omega)
  have p1' : (lo < hi) = False := eq_false c
  obtain rfl : lo = g := by omega
  simp (maxSteps := 2000000) only [vcA, ↓vcP, ↓reduceIte, reduceCtorEq, Nat.reduceAdd, Nat.reduceMul, Nat.reduceSub, Nat.reduceLT, Nat.reduceLeDiff, Nat.reduceEqDiff, Nat.reduceBEq, Nat.reduceBNe, Nat.reduceGT, Nat.reduceDiv, Nat.reduceMod, Int.reduceAdd, Int.reduceSub, Int.reduceNeg, Int.reduceLT, Int.reduceLE, Int.reduceEq, Int.reduceToNat, fA, p1, p1']
  refine hR _ (fin_of0 ?_)
  simp (maxSteps := 2000000) only [enA, ↓enP, Nat.reduceAdd, Nat.reduceMul, Nat.reduceSub, Nat.reduceLT, Nat.reduceLeDiff, Nat.reduceEqDiff, Nat.reduceBEq, ↓reduceIte, reduceCtorEq, fA]
end Go.Proofs.Ytdgeocjchnandaa.Ab
