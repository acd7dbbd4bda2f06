/- A wage, step by step: the walk of pays. -/
import Derived.Test.YtpnmbpbcgifkeaaZL4
namespace Go.Proofs.Ytpnmbpbcgifkeaa.Ab.T12
open Go Go.RowKit
set_option linter.unusedVariables false
set_option linter.unusedSimpArgs false
set_option maxRecDepth 100000
set_option maxHeartbeats 4000000 in
theorem lpays_spec (r : Rate) (d p b : Int) (hok : r.Ok) (hd : 0 ≤ d ∧ d ≤ 1000) (hp : 0 ≤ p ∧ p ≤ 11) (hb : 0 ≤ b ∧ b ≤ 1000) : SpecF Try.prog 11 [.agg [.sl 2 (r.steps.map sR), .v (.int .i64 r.piece), .v (.int .i64 r.fine)], .agg [.v (.int .i64 d), .v (.int .i64 p), .v (.int .i64 b)]] (.v (.int .i64 (wageOf r d p b))) [] := by
  have hl := hok.len
  have m1 := mul_bound hp hok.piece
  have m2 := mul_bound hb hok.fine
  have w1 : IntKind.i64.wrap (p * r.piece) = p * r.piece := wrap_id (by omega) (by omega)
  have w2 : IntKind.i64.wrap (b * r.fine) = b * r.fine := wrap_id (by omega) (by omega)
  have w3 : IntKind.i64.wrap (p * r.piece - b * r.fine) = p * r.piece - b * r.fine := wrap_id (by omega) (by omega)
  refine spec_go (N := 63) (rs := [.tmp 4]) (eq := eqs) rfl rfl fun_11 rfl (by kernel_rfl) (by kernel_rfl) (by simp) (by simp) (by simp) (by simp) fun R hR => ?_
  simp (maxSteps := 2000000) only [vcA, ↓vcP, ↓reduceIte, reduceCtorEq, Nat.reduceAdd, Nat.reduceMul, Nat.reduceSub, Nat.reduceLT, Nat.reduceLeDiff, Nat.reduceEqDiff, Nat.reduceBEq, Nat.reduceBNe, Nat.reduceGT, Nat.reduceDiv, Nat.reduceMod, Int.reduceAdd, Int.reduceSub, Int.reduceNeg, Int.reduceLT, Int.reduceLE, Int.reduceEq, Int.reduceToNat, fA, w1, w2, w3]
  refine goC_loop (α := {i : Nat // i ≤ r.steps.length}) (fun x => ⟨[(2, .ptr 8 0), (3, .ptr 16 0), (5, .v (.int .i64 (p * r.piece - b * r.fine + dz r.steps d x.1))), (6, .v (.int .i64 x.1))], [(8, .box 29 [.sl 2 (r.steps.map sR), .v (.int .i64 r.piece), .v (.int .i64 r.fine)]), (16, .box 32 [.v (.int .i64 d), .v (.int .i64 p), .v (.int .i64 b)])]⟩) (fun x => r.steps.length - x.1) ⟨0, by omega⟩ [] ?_ ?_
  · have e0 : p * r.piece - b * r.fine + dz r.steps d 0 = p * r.piece - b * r.fine := by simp [dz]
    simp (maxSteps := 2000000) only [enA, ↓enP, Nat.reduceAdd, Nat.reduceMul, Nat.reduceSub, Nat.reduceLT, Nat.reduceLeDiff, Nat.reduceEqDiff, Nat.reduceBEq, ↓reduceIte, reduceCtorEq, fA, w1, w2, w3, e0]
    try rfl
  intro x B hB
  obtain ⟨i, hi⟩ := x
  simp only at hB ⊢
  have db := dz_bound hok.steps hd i hi
  by_cases c : i < r.steps.length
  · have p1 : ((i : Int) < (r.steps.length : Int)) = True := eq_true (by omega)
    have p1' : (i < r.steps.length) = True := eq_true c
    have ei : IntKind.i64.wrap ((i : Int) + 1) = ((i + 1 : Nat) : Int) := wrap_id (by omega) (by omega)
    have hs := stepsOk_all hok.steps _ (nth_mem c)
    have hu := untilOf_bound hok.steps i
    have ds := dz_step hok.steps hd c
    have key : ∀ u : Int, u = min d (untilOf r.steps i) → IntKind.i64.wrap (u - (nth r.steps i).1) = u - (nth r.steps i).1 ∧ IntKind.i64.wrap ((nth r.steps i).2 * max 0 (u - (nth r.steps i).1)) = (nth r.steps i).2 * max 0 (u - (nth r.steps i).1) ∧ IntKind.i64.wrap (p * r.piece - b * r.fine + dz r.steps d i + (nth r.steps i).2 * max 0 (u - (nth r.steps i).1)) = p * r.piece - b * r.fine + dz r.steps d (i + 1) := fun u hu' => by
      rw [← hu'] at ds
      refine ⟨wrap_id (by omega) (by omega), wrap_id (by omega) (by omega), ?_⟩
      rw [wrap_id (by omega) (by omega)]
      simp only [dz]
      rw [← hu']
      omega
    by_cases c2 : i + 1 < r.steps.length
    · have q1 : (((i + 1 : Nat) : Int) < (r.steps.length : Int)) = True := eq_true (by omega)
      have q1' : (i + 1 < r.steps.length) = True := eq_true c2
      obtain ⟨k1, k2, k3⟩ := key (min d (nth r.steps (i + 1)).1) (by rw [until_lt c2])
      simp (maxSteps := 2000000) only [vcA, ↓vcP, ↓reduceIte, reduceCtorEq, Nat.reduceAdd, Nat.reduceMul, Nat.reduceSub, Nat.reduceLT, Nat.reduceLeDiff, Nat.reduceEqDiff, Nat.reduceBEq, Nat.reduceBNe, Nat.reduceGT, Nat.reduceDiv, Nat.reduceMod, Int.reduceAdd, Int.reduceSub, Int.reduceNeg, Int.reduceLT, Int.reduceLE, Int.reduceEq, Int.reduceToNat, fA, p1, p1', ei, q1, q1', sR, k1, k2, k3]
      try repeat (first | refine ⟨by kernel_rfl, ?_⟩ | refine ⟨⟨by kernel_rfl, by kernel_rfl⟩, ?_⟩ | refine ⟨⟨by kernel_rfl, by kernel_rfl, by kernel_rfl⟩, ?_⟩ | refine ⟨⟨by kernel_rfl, by kernel_rfl, by kernel_rfl, by kernel_rfl⟩, ?_⟩ | refine ⟨⟨by kernel_rfl, by kernel_rfl, by kernel_rfl, by kernel_rfl, by kernel_rfl⟩, ?_⟩ | refine ⟨⟨by kernel_rfl, by kernel_rfl, by kernel_rfl, by kernel_rfl, by kernel_rfl, by kernel_rfl⟩, ?_⟩ | refine ⟨⟨by kernel_rfl, by kernel_rfl, by kernel_rfl, by kernel_rfl, by kernel_rfl, by kernel_rfl, by kernel_rfl⟩, ?_⟩ | refine ⟨⟨by kernel_rfl, by kernel_rfl, by kernel_rfl, by kernel_rfl, by kernel_rfl, by kernel_rfl, by kernel_rfl, by kernel_rfl⟩, ?_⟩ | refine ⟨⟨by kernel_rfl, by kernel_rfl, by kernel_rfl, by kernel_rfl, by kernel_rfl, by kernel_rfl, by kernel_rfl, by kernel_rfl, by kernel_rfl⟩, ?_⟩ | refine ⟨⟨by kernel_rfl, by kernel_rfl, by kernel_rfl, by kernel_rfl, by kernel_rfl, by kernel_rfl, by kernel_rfl, by kernel_rfl, by kernel_rfl, by kernel_rfl⟩, ?_⟩ | refine ⟨⟨by kernel_rfl, by kernel_rfl, by kernel_rfl, by kernel_rfl, by kernel_rfl, by kernel_rfl, by kernel_rfl, by kernel_rfl, by kernel_rfl, by kernel_rfl, by kernel_rfl⟩, ?_⟩ | refine ⟨⟨by kernel_rfl, by kernel_rfl, by kernel_rfl, by kernel_rfl, by kernel_rfl, by kernel_rfl, by kernel_rfl, by kernel_rfl, by kernel_rfl, by kernel_rfl, by kernel_rfl, by kernel_rfl⟩, ?_⟩ | refine ⟨⟨by kernel_rfl, by kernel_rfl, by kernel_rfl, by kernel_rfl, by kernel_rfl, by kernel_rfl, by kernel_rfl, by kernel_rfl, by kernel_rfl, by kernel_rfl, by kernel_rfl, by kernel_rfl, by kernel_rfl⟩, ?_⟩)
      refine hB _ ⟨i + 1, by omega⟩ [] (by simp only; omega) rfl ?_
      simp (maxSteps := 2000000) only [enA, ↓enP, Nat.reduceAdd, Nat.reduceMul, Nat.reduceSub, Nat.reduceLT, Nat.reduceLeDiff, Nat.reduceEqDiff, Nat.reduceBEq, ↓reduceIte, reduceCtorEq, fA, ei, k3]
      try rfl
    · have q1 : (((i + 1 : Nat) : Int) < (r.steps.length : Int)) = False := eq_false (by omega)
      have q1' : (i + 1 < r.steps.length) = False := eq_false c2
      obtain ⟨k1, k2, k3⟩ := key d (by rw [until_end c2]; omega)
      simp (maxSteps := 2000000) only [vcA, ↓vcP, ↓reduceIte, reduceCtorEq, Nat.reduceAdd, Nat.reduceMul, Nat.reduceSub, Nat.reduceLT, Nat.reduceLeDiff, Nat.reduceEqDiff, Nat.reduceBEq, Nat.reduceBNe, Nat.reduceGT, Nat.reduceDiv, Nat.reduceMod, Int.reduceAdd, Int.reduceSub, Int.reduceNeg, Int.reduceLT, Int.reduceLE, Int.reduceEq, Int.reduceToNat, fA, p1, p1', ei, q1, q1', sR, k1, k2, k3]
      try repeat (first | refine ⟨by kernel_rfl, ?_⟩ | refine ⟨⟨by kernel_rfl, by kernel_rfl⟩, ?_⟩ | refine ⟨⟨by kernel_rfl, by kernel_rfl, by kernel_rfl⟩, ?_⟩ | refine ⟨⟨by kernel_rfl, by kernel_rfl, by kernel_rfl, by kernel_rfl⟩, ?_⟩ | refine ⟨⟨by kernel_rfl, by kernel_rfl, by kernel_rfl, by kernel_rfl, by kernel_rfl⟩, ?_⟩ | refine ⟨⟨by kernel_rfl, by kernel_rfl, by kernel_rfl, by kernel_rfl, by kernel_rfl, by kernel_rfl⟩, ?_⟩ | refine ⟨⟨by kernel_rfl, by kernel_rfl, by kernel_rfl, by kernel_rfl, by kernel_rfl, by kernel_rfl, by kernel_rfl⟩, ?_⟩ | refine ⟨⟨by kernel_rfl, by kernel_rfl, by kernel_rfl, by kernel_rfl, by kernel_rfl, by kernel_rfl, by kernel_rfl, by kernel_rfl⟩, ?_⟩ | refine ⟨⟨by kernel_rfl, by kernel_rfl, by kernel_rfl, by kernel_rfl, by kernel_rfl, by kernel_rfl, by kernel_rfl, by kernel_rfl, by kernel_rfl⟩, ?_⟩ | refine ⟨⟨by kernel_rfl, by kernel_rfl, by kernel_rfl, by kernel_rfl, by kernel_rfl, by kernel_rfl, by kernel_rfl, by kernel_rfl, by kernel_rfl, by kernel_rfl⟩, ?_⟩ | refine ⟨⟨by kernel_rfl, by kernel_rfl, by kernel_rfl, by kernel_rfl, by kernel_rfl, by kernel_rfl, by kernel_rfl, by kernel_rfl, by kernel_rfl, by kernel_rfl, by kernel_rfl⟩, ?_⟩ | refine ⟨⟨by kernel_rfl, by kernel_rfl, by kernel_rfl, by kernel_rfl, by kernel_rfl, by kernel_rfl, by kernel_rfl, by kernel_rfl, by kernel_rfl, by kernel_rfl, by kernel_rfl, by kernel_rfl⟩, ?_⟩ | refine ⟨⟨by kernel_rfl, by kernel_rfl, by kernel_rfl, by kernel_rfl, by kernel_rfl, by kernel_rfl, by kernel_rfl, by kernel_rfl, by kernel_rfl, by kernel_rfl, by kernel_rfl, by kernel_rfl, by kernel_rfl⟩, ?_⟩)
      refine hB _ ⟨i + 1, by omega⟩ [] (by simp only; omega) rfl ?_
      simp (maxSteps := 2000000) only [enA, ↓enP, Nat.reduceAdd, Nat.reduceMul, Nat.reduceSub, Nat.reduceLT, Nat.reduceLeDiff, Nat.reduceEqDiff, Nat.reduceBEq, ↓reduceIte, reduceCtorEq, fA, ei, k3]
      try rfl
  obtain rfl : i = r.steps.length := by omega
  have p1 : ((r.steps.length : Int) < (r.steps.length : Int)) = False := eq_false (by omega)
  have p1' : (r.steps.length < r.steps.length) = False := eq_false c
  have ew : max 0 (p * r.piece - b * r.fine + dz r.steps d r.steps.length) = wageOf r d p b := by unfold wageOf; omega
  simp (maxSteps := 2000000) only [vcA, ↓vcP, ↓reduceIte, reduceCtorEq, Nat.reduceAdd, Nat.reduceMul, Nat.reduceSub, Nat.reduceLT, Nat.reduceLeDiff, Nat.reduceEqDiff, Nat.reduceBEq, Nat.reduceBNe, Nat.reduceGT, Nat.reduceDiv, Nat.reduceMod, Int.reduceAdd, Int.reduceSub, Int.reduceNeg, Int.reduceLT, Int.reduceLE, Int.reduceEq, Int.reduceToNat, fA, p1, p1']
  refine hR _ (fin_of0 ?_)
  simp (maxSteps := 2000000) only [enA, ↓enP, Nat.reduceAdd, Nat.reduceMul, Nat.reduceSub, Nat.reduceLT, Nat.reduceLeDiff, Nat.reduceEqDiff, Nat.reduceBEq, ↓reduceIte, reduceCtorEq, fA, ew]
end Go.Proofs.Ytpnmbpbcgifkeaa.Ab.T12
