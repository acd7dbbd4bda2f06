/- The law's valid and apart. -/
import Derived.Test.YtafpicjnccffgaaZNH
namespace Go.Proofs.Ytafpicjnccffgaa.Ab.T01
open Go Go.RowKit
set_option linter.unusedSimpArgs false
set_option linter.unusedVariables false
set_option maxRecDepth 100000
set_option pp.maxSteps 1000000
set_option pp.deepTerms true
theorem valid_spec (l : List (Int × Int)) (n : Nat) (s : Sw) (hs : sawOk s = true) (hn : n ≤ 1000) (hl : l.length ≤ 1000) (hp : ∀ p ∈ l, 0 ≤ p.1 ∧ p.1 + s.long ≤ n ∧ 0 ≤ p.2 ∧ p.2 ≤ 300) : SpecF Try.prog 28 [.sl 2 (l.map plcR), .v (.int .i64 n), .agg [.v (.int .i64 s.long), .v (.int .i64 s.wide), .v (.int .i64 s.kerf), .v (.int .i64 s.across)]] (.v (.bool true)) [] := by
  unfold sawOk at hs
  simp only [Bool.and_eq_true] at hs
  have s1 := betw1 hs.1.1
  refine spec_go (N := 48) (rs := [.tmp 6]) (eq := eqs) rfl rfl fun_28 rfl (by kernel_rfl) (by kernel_rfl) (by simp) (by simp) (by simp) (by simp) fun R hR => ?_
  simp (maxSteps := 2000000) only [vcA, ↓vcP, ↓reduceIte, reduceCtorEq, Nat.reduceAdd, Nat.reduceMul, Nat.reduceSub, Nat.reduceLT, Nat.reduceLeDiff, Nat.reduceEqDiff, Nat.reduceBEq, Nat.reduceBNe, Nat.reduceGT, Nat.reduceDiv, Nat.reduceMod, Int.reduceAdd, Int.reduceSub, Int.reduceNeg, Int.reduceLT, Int.reduceLE, Int.reduceEq, Int.reduceToNat, fA]
  refine goC_loop (α := {i : Nat // i ≤ l.length}) (fun y => ⟨[(0, .sl 2 (l.map plcR)), (1, .v (.int .i64 n)), (5, .ptr 8 0), (7, .v (.int .i64 (y.1 : Int)))], [(8, .box 27 [.v (.int .i64 s.long), .v (.int .i64 s.wide), .v (.int .i64 s.kerf), .v (.int .i64 s.across)])]⟩) (fun y => l.length - y.1) ⟨0, by omega⟩ [] ?_ ?_
  · simp (maxSteps := 2000000) only [enA, ↓enP, Nat.reduceAdd, Nat.reduceMul, Nat.reduceSub, Nat.reduceLT, Nat.reduceLeDiff, Nat.reduceEqDiff, Nat.reduceBEq, ↓reduceIte, reduceCtorEq, fA]
    simp
  intro y B hB
  obtain ⟨i, hi⟩ := y
  simp only at hB ⊢
  by_cases ci : i < l.length
  · have q1 : (i < l.length) = True := eq_true ci
    have ei : IntKind.i64.wrap ((i : Int) + 1) = ((i + 1 : Nat) : Int) := wrap_id (by omega) (by omega)
    obtain ⟨a, b, c, d⟩ := hp _ (nth_mem ci)
    have el : IntKind.i64.wrap ((nth l i).1 + s.long) = (nth l i).1 + s.long := wrap_id (by omega) (by omega)
    have p1 : ((nth l i).1 < 0) = False := eq_false (by omega)
    have p2 : ((nth l i).1 + s.long > (n : Int)) = False := eq_false (by omega)
    have p2' : ((nth l i).1 + s.long ≤ (n : Int)) = True := eq_true b
    have p1' : (0 ≤ (nth l i).1) = True := eq_true a
    have p3 : ((nth l i).2 < 0) = False := eq_false (by omega)
    have p3' : (0 ≤ (nth l i).2) = True := eq_true c
    have p4 : ((nth l i).2 > 300) = False := eq_false (by omega)
    have p4' : ((nth l i).2 ≤ 300) = True := eq_true d
    simp (maxSteps := 2000000) only [vcA, ↓vcP, ↓reduceIte, reduceCtorEq, Nat.reduceAdd, Nat.reduceMul, Nat.reduceSub, Nat.reduceLT, Nat.reduceLeDiff, Nat.reduceEqDiff, Nat.reduceBEq, Nat.reduceBNe, Nat.reduceGT, Nat.reduceDiv, Nat.reduceMod, Int.reduceAdd, Int.reduceSub, Int.reduceNeg, Int.reduceLT, Int.reduceLE, Int.reduceEq, Int.reduceToNat, fA, q1, plcR, el, p1, p2, p3, p4, p1', p2', p3', p4']
    refine hB _ ⟨i + 1, by omega⟩ [] (by simp only; omega) rfl ?_
    simp (maxSteps := 2000000) only [enA, ↓enP, Nat.reduceAdd, Nat.reduceMul, Nat.reduceSub, Nat.reduceLT, Nat.reduceLeDiff, Nat.reduceEqDiff, Nat.reduceBEq, ↓reduceIte, reduceCtorEq, fA, ei]
  have q1 : (i < l.length) = False := eq_false ci
  simp (maxSteps := 2000000) only [vcA, ↓vcP, ↓reduceIte, reduceCtorEq, Nat.reduceAdd, Nat.reduceMul, Nat.reduceSub, Nat.reduceLT, Nat.reduceLeDiff, Nat.reduceEqDiff, Nat.reduceBEq, Nat.reduceBNe, Nat.reduceGT, Nat.reduceDiv, Nat.reduceMod, Int.reduceAdd, Int.reduceSub, Int.reduceNeg, Int.reduceLT, Int.reduceLE, Int.reduceEq, Int.reduceToNat, fA, q1]
  refine hR _ (fin_of1 [] ?_)
  simp (maxSteps := 2000000) only [enA, ↓enP, Nat.reduceAdd, Nat.reduceMul, Nat.reduceSub, Nat.reduceLT, Nat.reduceLeDiff, Nat.reduceEqDiff, Nat.reduceBEq, ↓reduceIte, reduceCtorEq, fA]
theorem apart3_spec (l : List (Int × Int)) (s : Sw) (hs : sawOk s = true) (hl : l.length ≤ 1000) (hb : ∀ p ∈ l, 0 ≤ p.1 ∧ p.1 ≤ 1000 ∧ 0 ≤ p.2 ∧ p.2 ≤ 300) (hp : l.Pairwise (After s)) : SpecF Try.prog 29 [.sl 2 (l.map plcR), .agg [.v (.int .i64 s.long), .v (.int .i64 s.wide), .v (.int .i64 s.kerf), .v (.int .i64 s.across)]] (.v (.bool true)) [] := by
  unfold sawOk at hs
  simp only [Bool.and_eq_true] at hs
  have s1 := betw1 hs.1.1
  have s2 := betw1 hs.1.2
  have s3 := betw2 hs.2
  have ew : IntKind.i64.wrap (s.wide + s.kerf) = s.wide + s.kerf := wrap_id (by omega) (by omega)
  have ea : IntKind.i64.wrap (s.long + s.across) = s.long + s.across := wrap_id (by omega) (by omega)
  refine spec_go (N := 90) (rs := [.tmp 4]) (eq := eqs) rfl rfl fun_29 rfl (by kernel_rfl) (by kernel_rfl) (by simp) (by simp) (by simp) (by simp) fun R hR => ?_
  simp (maxSteps := 2000000) only [vcA, ↓vcP, ↓reduceIte, reduceCtorEq, Nat.reduceAdd, Nat.reduceMul, Nat.reduceSub, Nat.reduceLT, Nat.reduceLeDiff, Nat.reduceEqDiff, Nat.reduceBEq, Nat.reduceBNe, Nat.reduceGT, Nat.reduceDiv, Nat.reduceMod, Int.reduceAdd, Int.reduceSub, Int.reduceNeg, Int.reduceLT, Int.reduceLE, Int.reduceEq, Int.reduceToNat, fA]
  refine goC_loop (α := {i : Nat // i ≤ l.length}) (fun y => ⟨[(0, .sl 2 (l.map plcR)), (3, .ptr 8 0), (5, .v (.int .i64 (y.1 : Int)))], [(8, .box 27 [.v (.int .i64 s.long), .v (.int .i64 s.wide), .v (.int .i64 s.kerf), .v (.int .i64 s.across)])]⟩) (fun y => l.length - y.1) ⟨0, by omega⟩ [] ?_ ?_
  · simp (maxSteps := 2000000) only [enA, ↓enP, Nat.reduceAdd, Nat.reduceMul, Nat.reduceSub, Nat.reduceLT, Nat.reduceLeDiff, Nat.reduceEqDiff, Nat.reduceBEq, ↓reduceIte, reduceCtorEq, fA]
    simp
  intro y B hB
  obtain ⟨i, hi⟩ := y
  simp only at hB ⊢
  by_cases ci : i < l.length
  · have q1 : (i < l.length) = True := eq_true ci
    have ei : IntKind.i64.wrap ((i : Int) + 1) = ((i + 1 : Nat) : Int) := wrap_id (by omega) (by omega)
    simp (maxSteps := 2000000) only [vcA, ↓vcP, ↓reduceIte, reduceCtorEq, Nat.reduceAdd, Nat.reduceMul, Nat.reduceSub, Nat.reduceLT, Nat.reduceLeDiff, Nat.reduceEqDiff, Nat.reduceBEq, Nat.reduceBNe, Nat.reduceGT, Nat.reduceDiv, Nat.reduceMod, Int.reduceAdd, Int.reduceSub, Int.reduceNeg, Int.reduceLT, Int.reduceLE, Int.reduceEq, Int.reduceToNat, fA, q1]
    refine goC_loop (α := {j : Nat // j ≤ i}) (fun y => ⟨[(0, .sl 2 (l.map plcR)), (3, .ptr 8 0), (5, .v (.int .i64 (i : Int))), (6, .v (.int .i64 (y.1 : Int)))], [(8, .box 27 [.v (.int .i64 s.long), .v (.int .i64 s.wide), .v (.int .i64 s.kerf), .v (.int .i64 s.across)])]⟩) (fun y => i - y.1) ⟨0, by omega⟩ [] ?_ ?_
    · simp (maxSteps := 2000000) only [enA, ↓enP, Nat.reduceAdd, Nat.reduceMul, Nat.reduceSub, Nat.reduceLT, Nat.reduceLeDiff, Nat.reduceEqDiff, Nat.reduceBEq, ↓reduceIte, reduceCtorEq, fA]
      simp
    intro y B2 hB2
    obtain ⟨j, hj⟩ := y
    simp only at hB2 ⊢
    by_cases cj : j < i
    · have q2 : (j < i) = True := eq_true cj
      have q3 : (j < l.length) = True := eq_true (by omega)
      have ej : IntKind.i64.wrap ((j : Int) + 1) = ((j + 1 : Nat) : Int) := wrap_id (by omega) (by omega)
      obtain ⟨a, b, c, d⟩ := hb _ (nth_mem ci)
      obtain ⟨a', b', c', d'⟩ := hb _ (nth_mem (show j < l.length by omega))
      have hpj := pair_nth hp cj ci
      obtain ⟨X, hX⟩ : ∃ X, X = nth l i := ⟨_, rfl⟩
      obtain ⟨Y, hY⟩ : ∃ Y, Y = nth l j := ⟨_, rfl⟩
      have w1 : IntKind.i64.wrap ((nth l i).1 - (nth l j).1) = (nth l i).1 - (nth l j).1 := wrap_id (by omega) (by omega)
      have w2 : IntKind.i64.wrap ((nth l j).1 - (nth l i).1) = (nth l j).1 - (nth l i).1 := wrap_id (by omega) (by omega)
      have w3 : IntKind.i64.wrap ((nth l i).2 - (nth l j).2) = (nth l i).2 - (nth l j).2 := wrap_id (by omega) (by omega)
      have w4 : IntKind.i64.wrap ((nth l j).2 - (nth l i).2) = (nth l j).2 - (nth l i).2 := wrap_id (by omega) (by omega)
      simp (maxSteps := 2000000) only [vcA, ↓vcP, ↓reduceIte, reduceCtorEq, Nat.reduceAdd, Nat.reduceMul, Nat.reduceSub, Nat.reduceLT, Nat.reduceLeDiff, Nat.reduceEqDiff, Nat.reduceBEq, Nat.reduceBNe, Nat.reduceGT, Nat.reduceDiv, Nat.reduceMod, Int.reduceAdd, Int.reduceSub, Int.reduceNeg, Int.reduceLT, Int.reduceLE, Int.reduceEq, Int.reduceToNat, fA, q1, q2, q3, plcR, w1, w2, w3, w4, ew, ea]
      unfold After at hpj
      refine ⟨fun e => ⟨fun f => ⟨fun g => ⟨fun h => ?_, fun h => ?_⟩, fun g => ?_⟩, fun f => ?_⟩, fun e => ⟨fun g => ⟨fun h => ?_, fun h => ?_⟩, fun g => ?_⟩⟩
      all_goals
        first
        | (exfalso; have e := beq_iff_eq.1 e; omega)
        | (exfalso; have e := beq_eq_false_iff_ne.1 e; omega)
        | (refine hB2 _ ⟨j + 1, by omega⟩ [] (by simp only; omega) rfl ?_
           simp (maxSteps := 2000000) only [enA, ↓enP, Nat.reduceAdd, Nat.reduceMul, Nat.reduceSub, Nat.reduceLT, Nat.reduceLeDiff, Nat.reduceEqDiff, Nat.reduceBEq, ↓reduceIte, reduceCtorEq, fA, ej])
    have q2 : (j < i) = False := eq_false cj
    simp (maxSteps := 2000000) only [vcA, ↓vcP, ↓reduceIte, reduceCtorEq, Nat.reduceAdd, Nat.reduceMul, Nat.reduceSub, Nat.reduceLT, Nat.reduceLeDiff, Nat.reduceEqDiff, Nat.reduceBEq, Nat.reduceBNe, Nat.reduceGT, Nat.reduceDiv, Nat.reduceMod, Int.reduceAdd, Int.reduceSub, Int.reduceNeg, Int.reduceLT, Int.reduceLE, Int.reduceEq, Int.reduceToNat, fA, q2]
    refine hB _ ⟨i + 1, by omega⟩ [] (by simp only; omega) rfl ?_
    simp (maxSteps := 2000000) only [enA, ↓enP, Nat.reduceAdd, Nat.reduceMul, Nat.reduceSub, Nat.reduceLT, Nat.reduceLeDiff, Nat.reduceEqDiff, Nat.reduceBEq, ↓reduceIte, reduceCtorEq, fA, ei]
  have q1 : (i < l.length) = False := eq_false ci
  simp (maxSteps := 2000000) only [vcA, ↓vcP, ↓reduceIte, reduceCtorEq, Nat.reduceAdd, Nat.reduceMul, Nat.reduceSub, Nat.reduceLT, Nat.reduceLeDiff, Nat.reduceEqDiff, Nat.reduceBEq, Nat.reduceBNe, Nat.reduceGT, Nat.reduceDiv, Nat.reduceMod, Int.reduceAdd, Int.reduceSub, Int.reduceNeg, Int.reduceLT, Int.reduceLE, Int.reduceEq, Int.reduceToNat, fA, q1]
  refine hR _ (fin_of1 [] ?_)
  simp (maxSteps := 2000000) only [enA, ↓enP, Nat.reduceAdd, Nat.reduceMul, Nat.reduceSub, Nat.reduceLT, Nat.reduceLeDiff, Nat.reduceEqDiff, Nat.reduceBEq, ↓reduceIte, reduceCtorEq, fA]
end Go.Proofs.Ytafpicjnccffgaa.Ab.T01
