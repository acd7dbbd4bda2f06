/- Bins that are to be packed. -/
import Derived.Test.YtlckjjaipbiidaaZF4
namespace Go.Proofs.Ytlckjjaipbiidaa.Ab.T11
open Go Go.RowKit
set_option linter.unusedVariables false
set_option linter.unusedSimpArgs false
set_option maxRecDepth 100000
theorem mptK : mpt Try.prog 98 = none := by kernel_rfl
theorem pack_spec (rows : List (List DV)) : SpecF Try.prog 16 [.sl 10 rows] (.ptr 0 0) [.box 100 [.sl 10 rows, .mp 1], .opq (MpK 5 fun _ => none)] := by
  refine spec_go (N := 7) (rs := [.tmp 2]) (eq := eqs) rfl rfl fun_16 rfl (by kernel_rfl) (by kernel_rfl) (by simp) (by simp) (by simp) (by simp) fun R hR => ?_
  simp (maxSteps := 2000000) only [vcA, ↓vcP, ↓reduceIte, reduceCtorEq, Nat.reduceAdd, Nat.reduceMul, Nat.reduceSub, Nat.reduceLT, Nat.reduceLeDiff, Nat.reduceEqDiff, Nat.reduceBEq, Nat.reduceBNe, Nat.reduceGT, Nat.reduceDiv, Nat.reduceMod, Int.reduceAdd, Int.reduceSub, Int.reduceNeg, Int.reduceLT, Int.reduceLE, Int.reduceEq, Int.reduceToNat, fA, onM_none, mptK]
  refine semO_makeMap 5 mptK ?_
  simp (maxSteps := 2000000) only [vcA, ↓vcP, ↓reduceIte, reduceCtorEq, Nat.reduceAdd, Nat.reduceMul, Nat.reduceSub, Nat.reduceLT, Nat.reduceLeDiff, Nat.reduceEqDiff, Nat.reduceBEq, Nat.reduceBNe, Nat.reduceGT, Nat.reduceDiv, Nat.reduceMod, Int.reduceAdd, Int.reduceSub, Int.reduceNeg, Int.reduceLT, Int.reduceLE, Int.reduceEq, Int.reduceToNat, fA, onM_none, mptK]
  refine hR _ (fin_of1 [some 40, some 24] ?_)
  simp (maxSteps := 2000000) only [enA, ↓enP, Nat.reduceAdd, Nat.reduceMul, Nat.reduceSub, Nat.reduceLT, Nat.reduceLeDiff, Nat.reduceEqDiff, Nat.reduceBEq, ↓reduceIte, reduceCtorEq, fA]
end Go.Proofs.Ytlckjjaipbiidaa.Ab.T11
