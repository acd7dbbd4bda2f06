/- Contracts of the law's helpers. Rates by bytes: what they pay. Rates by bytes: more pieces pay no less. -/
import Derived.Test.YtnalabgckndhoaaZX3
namespace Go.Proofs.Ytnalabgckndhoaa.Ab.T12
open Go Go.RowKit
set_option linter.unusedVariables false
set_option linter.unusedSimpArgs false
set_option maxRecDepth 100000
theorem ints_spec (a b : List Int) (ha : a.length < 1000000) : SpecF Try.prog 24 [.sl 1 (a.map iR), .sl 1 (b.map iR)] (.v (.bool (decide (a = b)))) [] := by
  refine spec_go (N := 26) (rs := [.tmp 4]) (eq := eqs) rfl rfl fun_24 rfl (by kernel_rfl) (by kernel_rfl) (by simp) (by simp) (by simp) (by simp) fun R hR => ?_
  simp (maxSteps := 2000000) only [vcA, ↓vcP, ↓reduceIte, reduceCtorEq, Nat.reduceAdd, Nat.reduceMul, Nat.reduceSub, Nat.reduceLT, Nat.reduceLeDiff, Nat.reduceEqDiff, Nat.reduceBEq, Nat.reduceBNe, Nat.reduceGT, Nat.reduceDiv, Nat.reduceMod, Int.reduceAdd, Int.reduceSub, Int.reduceNeg, Int.reduceLT, Int.reduceLE, Int.reduceEq, Int.reduceToNat, fA]
  refine ⟨fun h => hR _ (fin_of0 ?_), fun h => ?_⟩
  · simp (maxSteps := 2000000) only [enA, ↓enP, Nat.reduceAdd, Nat.reduceMul, Nat.reduceSub, Nat.reduceLT, Nat.reduceLeDiff, Nat.reduceEqDiff, Nat.reduceBEq, ↓reduceIte, reduceCtorEq, fA]
    have : a.length ≠ b.length := by intro e; rw [e] at h; simp at h
    have : a ≠ b := fun e => this (by rw [e])
    simp [this]
  have hl : a.length = b.length := by simp at h; omega
  refine goC_loop (α := {i : Nat // i ≤ a.length ∧ ∀ j, j < i → nth a j = nth b j}) (fun x => ⟨[(0, .sl 1 (a.map iR)), (1, .sl 1 (b.map iR)), (5, .v (.int .i64 x.1))], []⟩) (fun x => a.length - x.1) ⟨0, by omega, by omega⟩ [] ?_ ?_
  · simp (maxSteps := 2000000) only [enA, ↓enP, Nat.reduceAdd, Nat.reduceMul, Nat.reduceSub, Nat.reduceLT, Nat.reduceLeDiff, Nat.reduceEqDiff, Nat.reduceBEq, ↓reduceIte, reduceCtorEq, fA]
    rfl
  intro x B hB
  obtain ⟨i, hi, hx⟩ := x
  simp (maxSteps := 2000000) only [vcA, ↓vcP, ↓reduceIte, reduceCtorEq, Nat.reduceAdd, Nat.reduceMul, Nat.reduceSub, Nat.reduceLT, Nat.reduceLeDiff, Nat.reduceEqDiff, Nat.reduceBEq, Nat.reduceBNe, Nat.reduceGT, Nat.reduceDiv, Nat.reduceMod, Int.reduceAdd, Int.reduceSub, Int.reduceNeg, Int.reduceLT, Int.reduceLE, Int.reduceEq, Int.reduceToNat, fA, iR]
  refine ⟨fun h1 => ⟨h1, fun _ => ⟨h1, fun _ => ⟨by omega, fun _ => ⟨by omega, fun _ => ⟨fun h2 => hR _ (fin_of0 ?_), fun h2 => hB _ ⟨i + 1, by omega, ?_⟩ [] ?_ rfl ?_⟩⟩⟩⟩⟩, fun h1 => hR _ (fin_of0 ?_)⟩
  · simp (maxSteps := 2000000) only [enA, ↓enP, Nat.reduceAdd, Nat.reduceMul, Nat.reduceSub, Nat.reduceLT, Nat.reduceLeDiff, Nat.reduceEqDiff, Nat.reduceBEq, ↓reduceIte, reduceCtorEq, fA]
    have : a ≠ b := fun e => by rw [e] at h2; simp at h2
    simp [this]
  · intro j hj
    by_cases e : j = i
    · subst e; simpa using h2
    · exact hx j (by omega)
  · simp only; omega
  · simp (maxSteps := 2000000) only [enA, ↓enP, Nat.reduceAdd, Nat.reduceMul, Nat.reduceSub, Nat.reduceLT, Nat.reduceLeDiff, Nat.reduceEqDiff, Nat.reduceBEq, ↓reduceIte, reduceCtorEq, fA]
    rw [IntKind.wrap_i64]; simp; omega
  · simp (maxSteps := 2000000) only [enA, ↓enP, Nat.reduceAdd, Nat.reduceMul, Nat.reduceSub, Nat.reduceLT, Nat.reduceLeDiff, Nat.reduceEqDiff, Nat.reduceBEq, ↓reduceIte, reduceCtorEq, fA]
    have : a = b := by
      apply List.ext_getElem?
      intro j
      by_cases hj : j < a.length
      · rw [nth_eq hj, nth_eq (by omega), hx j (by omega)]
      · rw [List.getElem?_eq_none (by omega), List.getElem?_eq_none (by omega)]
    simp [this]
/-- A wage, or -1 with an error. -/
def payOr (r : Rate) (d p b : Int) : Int := if (pay r d p b).2 ≠ 0 then -1 else (pay r d p b).1
theorem oakPay_spec (r : Rate) (d p b : Int) (hl : r.steps.length < 1000000) : SpecF Try.prog 8 [.agg [.sl 2 (r.steps.map sR), .v (.int .i64 r.piece), .v (.int .i64 r.fine)], .v (.int .i64 d), .v (.int .i64 p), .v (.int .i64 b)] (.v (.int .i64 (payOr r d p b))) [] := by
  refine spec_go (N := 28) (rs := [.tmp 8]) (eq := eqs) rfl rfl fun_8 rfl (by kernel_rfl) (by kernel_rfl) (by simp) (by simp) (by simp) (by simp) fun R hR => ?_
  simp (maxSteps := 2000000) only [vcA, ↓vcP, ↓reduceIte, reduceCtorEq, Nat.reduceAdd, Nat.reduceMul, Nat.reduceSub, Nat.reduceLT, Nat.reduceLeDiff, Nat.reduceEqDiff, Nat.reduceBEq, Nat.reduceBNe, Nat.reduceGT, Nat.reduceDiv, Nat.reduceMod, Int.reduceAdd, Int.reduceSub, Int.reduceNeg, Int.reduceLT, Int.reduceLE, Int.reduceEq, Int.reduceToNat, fA]
  refine ⟨⟨by omega, by simp only [maxLen]; omega⟩, fun _ => ?_⟩
  refine onF_call (pay_spec r d p b) [48] [] [] ?_ ?_
  · simp (maxSteps := 2000000) only [okA, ↓okP, Nat.reduceAdd, Nat.reduceMul, Nat.reduceSub, Nat.reduceLT, Nat.reduceLeDiff, Nat.reduceEqDiff, Nat.reduceBEq, ↓reduceIte, reduceCtorEq]
  simp (maxSteps := 2000000) only [vcA, ↓vcP, ↓reduceIte, reduceCtorEq, Nat.reduceAdd, Nat.reduceMul, Nat.reduceSub, Nat.reduceLT, Nat.reduceLeDiff, Nat.reduceEqDiff, Nat.reduceBEq, Nat.reduceBNe, Nat.reduceGT, Nat.reduceDiv, Nat.reduceMod, Int.reduceAdd, Int.reduceSub, Int.reduceNeg, Int.reduceLT, Int.reduceLE, Int.reduceEq, Int.reduceToNat, fA]
  refine ⟨fun h1 => hR _ (fin_of0 ?_), fun h1 => hR _ (fin_of0 ?_)⟩
  · simp (maxSteps := 2000000) only [enA, ↓enP, Nat.reduceAdd, Nat.reduceMul, Nat.reduceSub, Nat.reduceLT, Nat.reduceLeDiff, Nat.reduceEqDiff, Nat.reduceBEq, ↓reduceIte, reduceCtorEq, fA]
    simp at h1
    simp [payOr, h1]
  · simp (maxSteps := 2000000) only [enA, ↓enP, Nat.reduceAdd, Nat.reduceMul, Nat.reduceSub, Nat.reduceLT, Nat.reduceLeDiff, Nat.reduceEqDiff, Nat.reduceBEq, ↓reduceIte, reduceCtorEq, fA]
    simp at h1
    simp [payOr, h1]
def rateOf (v0 v1 v2 v3 v4 : Int) : Rate := ⟨if 0 < v3 then [(0, 24 + v0), (v3, 24 + v4)] else [(0, 24 + v0)], v1 % 3, v2 % 101⟩
theorem oakRate_spec (v0 v1 v2 v3 v4 : Int) (h0 : 0 ≤ v0 ∧ v0 < 256) (h1 : 0 ≤ v1 ∧ v1 < 256) (h2 : 0 ≤ v2 ∧ v2 < 256) (h3 : 0 ≤ v3 ∧ v3 < 256) (h4 : 0 ≤ v4 ∧ v4 < 256) :
    SpecF Try.prog 7 [.agg [.v (.int .u8 v0), .v (.int .u8 v1), .v (.int .u8 v2), .v (.int .u8 v3), .v (.int .u8 v4)]] (.agg [.ob 0 (rateOf v0 v1 v2 v3 v4).steps.length, .v (.int .i64 (rateOf v0 v1 v2 v3 v4).piece), .v (.int .i64 (rateOf v0 v1 v2 v3 v4).fine)]) [.row 81 2 ((rateOf v0 v1 v2 v3 v4).steps.map sR) false] := by
  refine spec_go (N := 36) (rs := [.cell 2 41]) (eq := eqs) rfl rfl fun_7 rfl (by kernel_rfl) (by kernel_rfl) (by simp) (by simp) (by simp) (by simp) fun R hR => ?_
  have w : ∀ x : Int, 0 ≤ x ∧ x < 1000 → IntKind.i64.wrap x = x := fun x h => wrap_id (by omega) (by omega)
  have e0 : IntKind.i64.wrap v0 = v0 := w _ (by omega)
  have e1 : IntKind.i64.wrap v1 = v1 := w _ (by omega)
  have e2 : IntKind.i64.wrap v2 = v2 := w _ (by omega)
  have e3 : IntKind.i64.wrap v3 = v3 := w _ (by omega)
  have e4 : IntKind.i64.wrap v4 = v4 := w _ (by omega)
  have e5 : IntKind.i64.wrap (24 + v0) = 24 + v0 := w _ (by omega)
  have e6 : IntKind.i64.wrap (24 + v4) = 24 + v4 := w _ (by omega)
  have e7 : v1.tmod 3 = v1 % 3 := rem_of h1.1
  have e8 : v2.tmod 101 = v2 % 101 := rem_of h2.1
  simp (maxSteps := 2000000) only [vcA, ↓vcP, ↓reduceIte, reduceCtorEq, Nat.reduceAdd, Nat.reduceMul, Nat.reduceSub, Nat.reduceLT, Nat.reduceLeDiff, Nat.reduceEqDiff, Nat.reduceBEq, Nat.reduceBNe, Nat.reduceGT, Nat.reduceDiv, Nat.reduceMod, Int.reduceAdd, Int.reduceSub, Int.reduceNeg, Int.reduceLT, Int.reduceLE, Int.reduceEq, Int.reduceToNat, fA, e0, e1, e2, e3, e4, e5, e6, e7, e8]
  refine ⟨fun h => ⟨by simp [maxLen], fun _ => hR _ (fin_of1 [some 272] ?_)⟩, fun h => hR _ (fin_of1 [some 64] ?_)⟩
  · have : rateOf v0 v1 v2 v3 v4 = ⟨[(0, 24 + v0), (v3, 24 + v4)], v1 % 3, v2 % 101⟩ := by unfold rateOf; rw [if_pos (by omega)]
    rw [this]
    simp (maxSteps := 2000000) only [enA, ↓enP, Nat.reduceAdd, Nat.reduceMul, Nat.reduceSub, Nat.reduceLT, Nat.reduceLeDiff, Nat.reduceEqDiff, Nat.reduceBEq, ↓reduceIte, reduceCtorEq, fA]
    rfl
  · have : rateOf v0 v1 v2 v3 v4 = ⟨[(0, 24 + v0)], v1 % 3, v2 % 101⟩ := by unfold rateOf; rw [if_neg (by omega)]
    rw [this]
    simp (maxSteps := 2000000) only [enA, ↓enP, Nat.reduceAdd, Nat.reduceMul, Nat.reduceSub, Nat.reduceLT, Nat.reduceLeDiff, Nat.reduceEqDiff, Nat.reduceBEq, ↓reduceIte, reduceCtorEq, fA]
    rfl
theorem known_spec : SpecF Try.prog 9 [] (.v (.bool true)) [] := by
  have hs : shares [1, 1, 1] 100 = [33, 33, 34] := by decide
  have he : shareErr [1, 1, 1] 100 = 0 := by decide
  have hp : payOr ⟨[(0, 24), (10, 30)], 2, 5⟩ 12 7 3 = 299 := by decide
  refine spec_go (N := 25) (rs := [.tmp 0]) (eq := eqs) rfl rfl fun_9 rfl (by kernel_rfl) (by kernel_rfl) (by simp) (by simp) (by simp) (by simp) fun R hR => ?_
  simp (maxSteps := 2000000) only [vcA, ↓vcP, ↓reduceIte, reduceCtorEq, Nat.reduceAdd, Nat.reduceMul, Nat.reduceSub, Nat.reduceLT, Nat.reduceLeDiff, Nat.reduceEqDiff, Nat.reduceBEq, Nat.reduceBNe, Nat.reduceGT, Nat.reduceDiv, Nat.reduceMod, Int.reduceAdd, Int.reduceSub, Int.reduceNeg, Int.reduceLT, Int.reduceLE, Int.reduceEq, Int.reduceToNat, fA]
  refine onF_call (share_spec [1, 1, 1] 100 (by simp)) [64] [] [] ?_ ?_
  · simp (maxSteps := 2000000) only [okA, ↓okP, Nat.reduceAdd, Nat.reduceMul, Nat.reduceSub, Nat.reduceLT, Nat.reduceLeDiff, Nat.reduceEqDiff, Nat.reduceBEq, ↓reduceIte, reduceCtorEq]
    rfl
  simp (maxSteps := 2000000) only [vcA, ↓vcP, ↓reduceIte, reduceCtorEq, Nat.reduceAdd, Nat.reduceMul, Nat.reduceSub, Nat.reduceLT, Nat.reduceLeDiff, Nat.reduceEqDiff, Nat.reduceBEq, Nat.reduceBNe, Nat.reduceGT, Nat.reduceDiv, Nat.reduceMod, Int.reduceAdd, Int.reduceSub, Int.reduceNeg, Int.reduceLT, Int.reduceLE, Int.reduceEq, Int.reduceToNat, fA, hs, he, iR]
  refine onF_call (ints_spec [33, 33, 34] [33, 33, 34] (by simp)) [72, 152] [] [] ?_ ?_
  · simp (maxSteps := 2000000) only [okA, ↓okP, Nat.reduceAdd, Nat.reduceMul, Nat.reduceSub, Nat.reduceLT, Nat.reduceLeDiff, Nat.reduceEqDiff, Nat.reduceBEq, ↓reduceIte, reduceCtorEq]
    rfl
  simp (maxSteps := 2000000) only [vcA, ↓vcP, ↓reduceIte, reduceCtorEq, Nat.reduceAdd, Nat.reduceMul, Nat.reduceSub, Nat.reduceLT, Nat.reduceLeDiff, Nat.reduceEqDiff, Nat.reduceBEq, Nat.reduceBNe, Nat.reduceGT, Nat.reduceDiv, Nat.reduceMod, Int.reduceAdd, Int.reduceSub, Int.reduceNeg, Int.reduceLT, Int.reduceLE, Int.reduceEq, Int.reduceToNat, fA, iR]
  refine onF_call (oakPay_spec ⟨[(0, 24), (10, 30)], 2, 5⟩ 12 7 3 (by simp)) [32] [] [] ?_ ?_
  · simp (maxSteps := 2000000) only [okA, ↓okP, Nat.reduceAdd, Nat.reduceMul, Nat.reduceSub, Nat.reduceLT, Nat.reduceLeDiff, Nat.reduceEqDiff, Nat.reduceBEq, ↓reduceIte, reduceCtorEq]
    rfl
  simp (maxSteps := 2000000) only [vcA, ↓vcP, ↓reduceIte, reduceCtorEq, Nat.reduceAdd, Nat.reduceMul, Nat.reduceSub, Nat.reduceLT, Nat.reduceLeDiff, Nat.reduceEqDiff, Nat.reduceBEq, Nat.reduceBNe, Nat.reduceGT, Nat.reduceDiv, Nat.reduceMod, Int.reduceAdd, Int.reduceSub, Int.reduceNeg, Int.reduceLT, Int.reduceLE, Int.reduceEq, Int.reduceToNat, fA, hp]
  refine hR _ (fin_of0 ?_)
  simp (maxSteps := 2000000) only [enA, ↓enP, Nat.reduceAdd, Nat.reduceMul, Nat.reduceSub, Nat.reduceLT, Nat.reduceLeDiff, Nat.reduceEqDiff, Nat.reduceBEq, ↓reduceIte, reduceCtorEq, fA]
end Go.Proofs.Ytnalabgckndhoaa.Ab.T12
namespace Go.Proofs.Ytnalabgckndhoaa.Ab.T12
open Go Go.RowKit
set_option linter.unusedVariables false
set_option linter.unusedSimpArgs false
set_option maxRecDepth 100000
theorem rateOf_ok {v0 v1 v2 v3 v4 : Int} (h0 : 0 ≤ v0 ∧ v0 < 256) (h1 : 0 ≤ v1 ∧ v1 < 256) (h2 : 0 ≤ v2 ∧ v2 < 256) (h3 : 0 ≤ v3 ∧ v3 < 256) (h4 : 0 ≤ v4 ∧ v4 < 256) : openErr (rateOf v0 v1 v2 v3 v4) = 0 ∧ (rateOf v0 v1 v2 v3 v4).steps.length ≤ 2 := by
  have p1 := Int.emod_nonneg v1 (show (3 : Int) ≠ 0 by omega)
  have p2 := Int.emod_lt_of_pos v1 (show (0 : Int) < 3 by omega)
  have p3 := Int.emod_nonneg v2 (show (101 : Int) ≠ 0 by omega)
  have p4 := Int.emod_lt_of_pos v2 (show (0 : Int) < 101 by omega)
  have pb : betw 0 100 [v1 % 3, v2 % 101] = true := by simp [betw]; omega
  have q : ∀ x : Int, 0 ≤ x ∧ x ≤ 1000 → betw 0 1000 [x] = true := fun x hx => by simp [betw]; omega
  unfold rateOf
  by_cases h : 0 < v3
  · rw [if_pos h]
    have hs : stepsOk (-1) [(0, 24 + v0), (v3, 24 + v4)] = true := by
      simp only [stepsOk, q 0 (by omega), q (24 + v0) (by omega), q v3 (by omega), q (24 + v4) (by omega)]
      simp
      omega
    unfold openErr
    simp only [hs, pb]
    simp [nth]
  · rw [if_neg h]
    have hs : stepsOk (-1) [(0, 24 + v0)] = true := by
      simp only [stepsOk, q 0 (by omega), q (24 + v0) (by omega)]
      simp
    unfold openErr
    simp only [hs, pb]
    simp [nth]
theorem pay_ok {r : Rate} (h : openErr r = 0) {d p b : Int} (hd : 0 ≤ d ∧ d ≤ 1000) (hp : 0 ≤ p ∧ p ≤ 11) (hb : 0 ≤ b ∧ b ≤ 1000) : payOr r d p b = wageOf r d p b := by
  have q1 : betw 0 1000 [d, b] = true := by simp [betw]; omega
  have q2 : betw 0 11 [p] = true := by simp [betw]; omega
  simp [payOr, pay, h, q1, q2]
theorem wageOf_mono {r : Rate} (h : r.Ok) {d p b c : Int} (hbc : b ≤ c) : 0 ≤ wageOf r d p c ∧ wageOf r d p c ≤ wageOf r d p b := by
  have := Int.mul_le_mul_of_nonneg_right hbc h.fine.1
  unfold wageOf
  omega
end Go.Proofs.Ytnalabgckndhoaa.Ab.T12
namespace Go.Proofs.Ytnalabgckndhoaa.Ab.T12
open Go Go.RowKit
set_option linter.unusedVariables false
set_option linter.unusedSimpArgs false
set_option maxRecDepth 100000
/-- One dozen more pays at least as much as a dozen pieces. -/
theorem dz_next {v0 v1 v2 v3 v4 n : Int} (h0 : 0 ≤ v0) (h3 : v3 < 256) (h4 : 0 ≤ v4) (hn : 0 ≤ n ∧ n < 1000) :
    dz (rateOf v0 v1 v2 v3 v4).steps n (rateOf v0 v1 v2 v3 v4).steps.length + 24 ≤ dz (rateOf v0 v1 v2 v3 v4).steps (n + 1) (rateOf v0 v1 v2 v3 v4).steps.length := by
  unfold rateOf
  simp only
  by_cases c : 0 < v3
  · rw [if_pos c]
    have e : ∀ m : Int, dz [(0, 24 + v0), (v3, 24 + v4)] m 2 = (24 + v0) * max 0 (min m v3 - 0) + (24 + v4) * max 0 (min m 1000 - v3) := fun m => by
      simp [dz, untilOf, nth]
    have l : ([(0, 24 + v0), (v3, 24 + v4)] : List (Int × Int)).length = 2 := rfl
    rw [l, e, e]
    by_cases d : n < v3
    · have a1 : max 0 (min n v3 - 0) = n := by omega
      have a2 : max 0 (min (n + 1) v3 - 0) = n + 1 := by omega
      have a3 : max 0 (min n 1000 - v3) = 0 := by omega
      have a4 : max 0 (min (n + 1) 1000 - v3) = 0 := by omega
      rw [a1, a2, a3, a4, Int.mul_add (24 + v0) n 1]
      omega
    · have a1 : max 0 (min n v3 - 0) = v3 := by omega
      have a2 : max 0 (min (n + 1) v3 - 0) = v3 := by omega
      have a3 : max 0 (min n 1000 - v3) = n - v3 := by omega
      have a4 : max 0 (min (n + 1) 1000 - v3) = (n - v3) + 1 := by omega
      rw [a1, a2, a3, a4, Int.mul_add (24 + v4) (n - v3) 1]
      omega
  · rw [if_neg c]
    have e : ∀ m : Int, dz [(0, 24 + v0)] m 1 = (24 + v0) * max 0 (min m 1000 - 0) := fun m => by
      simp [dz, untilOf, nth]
    have l : ([(0, 24 + v0)] : List (Int × Int)).length = 1 := rfl
    rw [l, e, e]
    have a1 : max 0 (min n 1000 - 0) = n := by omega
    have a2 : max 0 (min (n + 1) 1000 - 0) = n + 1 := by omega
    rw [a1, a2, Int.mul_add (24 + v0) n 1]
    omega
/-- The wage for so many pieces, by the dozen and by the piece. -/
def wageN (r : Rate) (n : Int) : Int := wageOf r (n / 12) (n % 12) 0
theorem wageN_next {v0 v1 v2 v3 v4 n : Int} (h0 : 0 ≤ v0) (h3 : v3 < 256) (h4 : 0 ≤ v4) (hn : 0 ≤ n ∧ n < 11000) : wageN (rateOf v0 v1 v2 v3 v4) n ≤ wageN (rateOf v0 v1 v2 v3 v4) (n + 1) := by
  have p : 0 ≤ (rateOf v0 v1 v2 v3 v4).piece ∧ (rateOf v0 v1 v2 v3 v4).piece ≤ 2 := by show 0 ≤ v1 % 3 ∧ v1 % 3 ≤ 2; omega
  unfold wageN wageOf
  by_cases c : n % 12 = 11
  · have d := dz_next (v0 := v0) (v1 := v1) (v2 := v2) (v3 := v3) (v4 := v4) (n := n / 12) h0 h3 h4 (by omega)
    have e1 : (n + 1) / 12 = n / 12 + 1 := by omega
    have e2 : (n + 1) % 12 = 0 := by omega
    rw [e1, e2, c]
    omega
  · have e1 : (n + 1) / 12 = n / 12 := by omega
    have e2 : (n + 1) % 12 = n % 12 + 1 := by omega
    rw [e1, e2, Int.add_mul]
    omega
theorem wageN_mono {v0 v1 v2 v3 v4 : Int} (h0 : 0 ≤ v0) (h3 : v3 < 256) (h4 : 0 ≤ v4) {n : Int} (hn : 0 ≤ n) : ∀ k : Nat, n + k ≤ 11000 → wageN (rateOf v0 v1 v2 v3 v4) n ≤ wageN (rateOf v0 v1 v2 v3 v4) (n + k)
  | 0, _ => by simp
  | k + 1, hk => by
    have i := wageN_mono (v1 := v1) (v2 := v2) h0 h3 h4 hn k (by omega)
    have a := wageN_next (v0 := v0) (v1 := v1) (v2 := v2) (v3 := v3) (v4 := v4) (n := n + k) h0 h3 h4 (by omega)
    have e : n + ((k + 1 : Nat) : Int) = n + k + 1 := by omega
    rw [e]
    omega
theorem wageN_le {v0 v1 v2 v3 v4 : Int} (h0 : 0 ≤ v0) (h3 : v3 < 256) (h4 : 0 ≤ v4) {n m : Int} (hn : 0 ≤ n) (hnm : n ≤ m) (hm : m ≤ 11000) : wageN (rateOf v0 v1 v2 v3 v4) n ≤ wageN (rateOf v0 v1 v2 v3 v4) m := by
  have := wageN_mono (v0 := v0) (v1 := v1) (v2 := v2) (v3 := v3) (v4 := v4) h0 h3 h4 hn (m - n).toNat (by omega)
  rw [show n + ((m - n).toNat : Int) = m by omega] at this
  exact this
theorem wageN_nn (r : Rate) (n : Int) : 0 ≤ wageN r n := by unfold wageN wageOf; omega
/-- What oakPay returns. -/
theorem payOr_N {v0 v1 v2 v3 v4 : Int} (h0 : 0 ≤ v0 ∧ v0 < 256) (h1 : 0 ≤ v1 ∧ v1 < 256) (h2 : 0 ≤ v2 ∧ v2 < 256) (h3 : 0 ≤ v3 ∧ v3 < 256) (h4 : 0 ≤ v4 ∧ v4 < 256) {n : Int} (hn : 0 ≤ n ∧ n ≤ 11000) :
    payOr (rateOf v0 v1 v2 v3 v4) (n / 12) (n % 12) 0 = wageN (rateOf v0 v1 v2 v3 v4) n := by
  have := (rateOf_ok h0 h1 h2 h3 h4).1
  exact pay_ok this (by omega) (by omega) (by omega)
end Go.Proofs.Ytnalabgckndhoaa.Ab.T12
