/- The law's helpers: a copy, the same, large blades, the errors. -/
import Derived.Test.YtfaekiaegebmbaaR10
namespace Go.Proofs.Ytfaekiaegebmbaa.Ab.T01
open Go Go.RowKit
set_option linter.unusedSimpArgs false
set_option linter.unusedVariables false
set_option maxRecDepth 100000
/-- A blade, as an argument. -/
def aB (b : Bl) : AV := .agg [.sl 2 (b.bottom.map spR), .sl 2 (b.top.map spR), .v (.int .i64 b.bend), .sl 6 (b.cracks.map crR)]
def aS (s : Sw) : AV := .agg [.v (.int .i64 s.long), .v (.int .i64 s.wide), .v (.int .i64 s.kerf), .v (.int .i64 s.across)]
structure Small (b : Bl) : Prop where
  bottom : b.bottom.length < 1000
  top : b.top.length < 1000
  cracks : b.cracks.length < 1000
theorem copy_spec (b : Bl) (h : Small b) : SpecF Try.prog 19 [.agg [.sl 2 (b.bottom.map spR), .sl 2 (b.top.map spR), .v (.int .i64 b.bend), .sl 6 (b.cracks.map crR)]] (.agg [.sl 2 (b.bottom.map spR), .sl 2 (b.top.map spR), .v (.int .i64 b.bend), .sl 6 (b.cracks.map crR)]) [] := by
  refine SpecG.frz (r := .agg [.ob 0 b.bottom.length, .ob 1 b.top.length, .v (.int .i64 b.bend), .ob 2 b.cracks.length]) (objs := [.row 44 2 (b.bottom.map spR) false, .row 44 2 (b.top.map spR) false, .row 99 6 (b.cracks.map crR) false]) ?_
  obtain ⟨h1, h2, h3⟩ := h
  refine spec_go (N := 18) (rs := [.cell 2 30]) (eq := eqs) rfl rfl fun_19 rfl (by kernel_rfl) (by kernel_rfl) (by simp) (by simp) (by simp) (by simp) fun R hR => ?_
  simp (maxSteps := 2000000) only [vcA, ↓vcP, ↓reduceIte, reduceCtorEq, Nat.reduceAdd, Nat.reduceMul, Nat.reduceSub, Nat.reduceLT, Nat.reduceLeDiff, Nat.reduceEqDiff, Nat.reduceBEq, Nat.reduceBNe, Nat.reduceGT, Nat.reduceDiv, Nat.reduceMod, Int.reduceAdd, Int.reduceSub, Int.reduceNeg, Int.reduceLT, Int.reduceLE, Int.reduceEq, Int.reduceToNat, fA]
  refine ⟨⟨by omega, by simp only [maxLen]; omega⟩, fun _ => ?_⟩
  repeat (first | refine ⟨by kernel_rfl, ?_⟩ | refine ⟨⟨by kernel_rfl, by kernel_rfl⟩, ?_⟩ | refine ⟨⟨by kernel_rfl, by kernel_rfl, by kernel_rfl⟩, ?_⟩ | refine ⟨⟨by kernel_rfl, by kernel_rfl, by kernel_rfl, by kernel_rfl⟩, ?_⟩ | refine ⟨⟨by kernel_rfl, by kernel_rfl, by kernel_rfl, by kernel_rfl, by kernel_rfl⟩, ?_⟩ | refine ⟨⟨by kernel_rfl, by kernel_rfl, by kernel_rfl, by kernel_rfl, by kernel_rfl, by kernel_rfl⟩, ?_⟩ | refine ⟨⟨by kernel_rfl, by kernel_rfl, by kernel_rfl, by kernel_rfl, by kernel_rfl, by kernel_rfl, by kernel_rfl⟩, ?_⟩ | refine ⟨⟨by kernel_rfl, by kernel_rfl, by kernel_rfl, by kernel_rfl, by kernel_rfl, by kernel_rfl, by kernel_rfl, by kernel_rfl⟩, ?_⟩ | refine ⟨⟨by kernel_rfl, by kernel_rfl, by kernel_rfl, by kernel_rfl, by kernel_rfl, by kernel_rfl, by kernel_rfl, by kernel_rfl, by kernel_rfl⟩, ?_⟩ | refine ⟨⟨by kernel_rfl, by kernel_rfl, by kernel_rfl, by kernel_rfl, by kernel_rfl, by kernel_rfl, by kernel_rfl, by kernel_rfl, by kernel_rfl, by kernel_rfl⟩, ?_⟩ | refine ⟨⟨by kernel_rfl, by kernel_rfl, by kernel_rfl, by kernel_rfl, by kernel_rfl, by kernel_rfl, by kernel_rfl, by kernel_rfl, by kernel_rfl, by kernel_rfl, by kernel_rfl⟩, ?_⟩ | refine ⟨⟨by kernel_rfl, by kernel_rfl, by kernel_rfl, by kernel_rfl, by kernel_rfl, by kernel_rfl, by kernel_rfl, by kernel_rfl, by kernel_rfl, by kernel_rfl, by kernel_rfl, by kernel_rfl⟩, ?_⟩ | refine ⟨⟨by kernel_rfl, by kernel_rfl, by kernel_rfl, by kernel_rfl, by kernel_rfl, by kernel_rfl, by kernel_rfl, by kernel_rfl, by kernel_rfl, by kernel_rfl, by kernel_rfl, by kernel_rfl, by kernel_rfl⟩, ?_⟩)
  refine ⟨⟨by omega, by simp only [maxLen]; omega⟩, fun _ => ?_⟩
  repeat (first | refine ⟨by kernel_rfl, ?_⟩ | refine ⟨⟨by kernel_rfl, by kernel_rfl⟩, ?_⟩ | refine ⟨⟨by kernel_rfl, by kernel_rfl, by kernel_rfl⟩, ?_⟩ | refine ⟨⟨by kernel_rfl, by kernel_rfl, by kernel_rfl, by kernel_rfl⟩, ?_⟩ | refine ⟨⟨by kernel_rfl, by kernel_rfl, by kernel_rfl, by kernel_rfl, by kernel_rfl⟩, ?_⟩ | refine ⟨⟨by kernel_rfl, by kernel_rfl, by kernel_rfl, by kernel_rfl, by kernel_rfl, by kernel_rfl⟩, ?_⟩ | refine ⟨⟨by kernel_rfl, by kernel_rfl, by kernel_rfl, by kernel_rfl, by kernel_rfl, by kernel_rfl, by kernel_rfl⟩, ?_⟩ | refine ⟨⟨by kernel_rfl, by kernel_rfl, by kernel_rfl, by kernel_rfl, by kernel_rfl, by kernel_rfl, by kernel_rfl, by kernel_rfl⟩, ?_⟩ | refine ⟨⟨by kernel_rfl, by kernel_rfl, by kernel_rfl, by kernel_rfl, by kernel_rfl, by kernel_rfl, by kernel_rfl, by kernel_rfl, by kernel_rfl⟩, ?_⟩ | refine ⟨⟨by kernel_rfl, by kernel_rfl, by kernel_rfl, by kernel_rfl, by kernel_rfl, by kernel_rfl, by kernel_rfl, by kernel_rfl, by kernel_rfl, by kernel_rfl⟩, ?_⟩ | refine ⟨⟨by kernel_rfl, by kernel_rfl, by kernel_rfl, by kernel_rfl, by kernel_rfl, by kernel_rfl, by kernel_rfl, by kernel_rfl, by kernel_rfl, by kernel_rfl, by kernel_rfl⟩, ?_⟩ | refine ⟨⟨by kernel_rfl, by kernel_rfl, by kernel_rfl, by kernel_rfl, by kernel_rfl, by kernel_rfl, by kernel_rfl, by kernel_rfl, by kernel_rfl, by kernel_rfl, by kernel_rfl, by kernel_rfl⟩, ?_⟩ | refine ⟨⟨by kernel_rfl, by kernel_rfl, by kernel_rfl, by kernel_rfl, by kernel_rfl, by kernel_rfl, by kernel_rfl, by kernel_rfl, by kernel_rfl, by kernel_rfl, by kernel_rfl, by kernel_rfl, by kernel_rfl⟩, ?_⟩)
  refine ⟨⟨by omega, by simp only [maxLen]; omega⟩, fun _ => ?_⟩
  repeat (first | refine ⟨by kernel_rfl, ?_⟩ | refine ⟨⟨by kernel_rfl, by kernel_rfl⟩, ?_⟩ | refine ⟨⟨by kernel_rfl, by kernel_rfl, by kernel_rfl⟩, ?_⟩ | refine ⟨⟨by kernel_rfl, by kernel_rfl, by kernel_rfl, by kernel_rfl⟩, ?_⟩ | refine ⟨⟨by kernel_rfl, by kernel_rfl, by kernel_rfl, by kernel_rfl, by kernel_rfl⟩, ?_⟩ | refine ⟨⟨by kernel_rfl, by kernel_rfl, by kernel_rfl, by kernel_rfl, by kernel_rfl, by kernel_rfl⟩, ?_⟩ | refine ⟨⟨by kernel_rfl, by kernel_rfl, by kernel_rfl, by kernel_rfl, by kernel_rfl, by kernel_rfl, by kernel_rfl⟩, ?_⟩ | refine ⟨⟨by kernel_rfl, by kernel_rfl, by kernel_rfl, by kernel_rfl, by kernel_rfl, by kernel_rfl, by kernel_rfl, by kernel_rfl⟩, ?_⟩ | refine ⟨⟨by kernel_rfl, by kernel_rfl, by kernel_rfl, by kernel_rfl, by kernel_rfl, by kernel_rfl, by kernel_rfl, by kernel_rfl, by kernel_rfl⟩, ?_⟩ | refine ⟨⟨by kernel_rfl, by kernel_rfl, by kernel_rfl, by kernel_rfl, by kernel_rfl, by kernel_rfl, by kernel_rfl, by kernel_rfl, by kernel_rfl, by kernel_rfl⟩, ?_⟩ | refine ⟨⟨by kernel_rfl, by kernel_rfl, by kernel_rfl, by kernel_rfl, by kernel_rfl, by kernel_rfl, by kernel_rfl, by kernel_rfl, by kernel_rfl, by kernel_rfl, by kernel_rfl⟩, ?_⟩ | refine ⟨⟨by kernel_rfl, by kernel_rfl, by kernel_rfl, by kernel_rfl, by kernel_rfl, by kernel_rfl, by kernel_rfl, by kernel_rfl, by kernel_rfl, by kernel_rfl, by kernel_rfl, by kernel_rfl⟩, ?_⟩ | refine ⟨⟨by kernel_rfl, by kernel_rfl, by kernel_rfl, by kernel_rfl, by kernel_rfl, by kernel_rfl, by kernel_rfl, by kernel_rfl, by kernel_rfl, by kernel_rfl, by kernel_rfl, by kernel_rfl, by kernel_rfl⟩, ?_⟩)
  refine hR _ (fin_of1 [some 48, some 80, some 128] ?_)
  simp (maxSteps := 2000000) only [enA, ↓enP, Nat.reduceAdd, Nat.reduceMul, Nat.reduceSub, Nat.reduceLT, Nat.reduceLeDiff, Nat.reduceEqDiff, Nat.reduceBEq, ↓reduceIte, reduceCtorEq, fA]
theorem same_spec (b : Bl) (h : Small b) : SpecF Try.prog 22 [.agg [.sl 2 (b.bottom.map spR), .sl 2 (b.top.map spR), .v (.int .i64 b.bend), .sl 6 (b.cracks.map crR)], .agg [.sl 2 (b.bottom.map spR), .sl 2 (b.top.map spR), .v (.int .i64 b.bend), .sl 6 (b.cracks.map crR)]] (.v (.bool true)) [] := by
  obtain ⟨h1, h2, h3⟩ := h
  have dd : ∀ l : List Sp, decide (l = l) = true := fun l => decide_eq_true rfl
  have bb : ∀ n : Int, (n != n) = false := fun n => by simp
  refine spec_go (N := 54) (rs := [.tmp 4]) (eq := eqs) rfl rfl fun_22 rfl (by kernel_rfl) (by kernel_rfl) (by simp) (by simp) (by simp) (by simp) fun R hR => ?_
  simp (maxSteps := 2000000) only [vcA, ↓vcP, ↓reduceIte, reduceCtorEq, Nat.reduceAdd, Nat.reduceMul, Nat.reduceSub, Nat.reduceLT, Nat.reduceLeDiff, Nat.reduceEqDiff, Nat.reduceBEq, Nat.reduceBNe, Nat.reduceGT, Nat.reduceDiv, Nat.reduceMod, Int.reduceAdd, Int.reduceSub, Int.reduceNeg, Int.reduceLT, Int.reduceLE, Int.reduceEq, Int.reduceToNat, fA]
  refine onF_data (spans_spec b.bottom b.bottom (by omega) (by omega)) ?_ ?_
  · simp (maxSteps := 2000000) only [okA, ↓okP, Nat.reduceAdd, Nat.reduceMul, Nat.reduceSub, Nat.reduceLT, Nat.reduceLeDiff, Nat.reduceEqDiff, Nat.reduceBEq, ↓reduceIte, reduceCtorEq]
  simp (maxSteps := 2000000) only [vcA, ↓vcP, ↓reduceIte, reduceCtorEq, Nat.reduceAdd, Nat.reduceMul, Nat.reduceSub, Nat.reduceLT, Nat.reduceLeDiff, Nat.reduceEqDiff, Nat.reduceBEq, Nat.reduceBNe, Nat.reduceGT, Nat.reduceDiv, Nat.reduceMod, Int.reduceAdd, Int.reduceSub, Int.reduceNeg, Int.reduceLT, Int.reduceLE, Int.reduceEq, Int.reduceToNat, fA, dd]
  refine onF_data (spans_spec b.top b.top (by omega) (by omega)) ?_ ?_
  · simp (maxSteps := 2000000) only [okA, ↓okP, Nat.reduceAdd, Nat.reduceMul, Nat.reduceSub, Nat.reduceLT, Nat.reduceLeDiff, Nat.reduceEqDiff, Nat.reduceBEq, ↓reduceIte, reduceCtorEq]
  simp (maxSteps := 2000000) only [vcA, ↓vcP, ↓reduceIte, reduceCtorEq, Nat.reduceAdd, Nat.reduceMul, Nat.reduceSub, Nat.reduceLT, Nat.reduceLeDiff, Nat.reduceEqDiff, Nat.reduceBEq, Nat.reduceBNe, Nat.reduceGT, Nat.reduceDiv, Nat.reduceMod, Int.reduceAdd, Int.reduceSub, Int.reduceNeg, Int.reduceLT, Int.reduceLE, Int.reduceEq, Int.reduceToNat, fA, dd, bb]
  refine goC_loop (α := {i : Nat // i ≤ b.cracks.length}) (fun x => ⟨[(2, .ptr 8 0), (3, .ptr 16 0), (5, .v (.int .i64 x.1))], [(8, .box 30 [.sl 2 (b.bottom.map spR), .sl 2 (b.top.map spR), .v (.int .i64 b.bend), .sl 6 (b.cracks.map crR)]), (16, .box 30 [.sl 2 (b.bottom.map spR), .sl 2 (b.top.map spR), .v (.int .i64 b.bend), .sl 6 (b.cracks.map crR)])]⟩) (fun x => b.cracks.length - x.1) ⟨0, by omega⟩ [] ?_ ?_
  · simp (maxSteps := 2000000) only [enA, ↓enP, Nat.reduceAdd, Nat.reduceMul, Nat.reduceSub, Nat.reduceLT, Nat.reduceLeDiff, Nat.reduceEqDiff, Nat.reduceBEq, ↓reduceIte, reduceCtorEq, fA]
    rfl
  intro x B hB
  obtain ⟨i, hi⟩ := x
  by_cases hc : i < b.cracks.length
  · have qc : (i < b.cracks.length) = True := eq_true hc
    have e3 : IntKind.i64.wrap ((i : Int) + 1) = ((i + 1 : Nat) : Int) := wrap_id (by omega) (by omega)
    simp (maxSteps := 2000000) only [vcA, ↓vcP, ↓reduceIte, reduceCtorEq, Nat.reduceAdd, Nat.reduceMul, Nat.reduceSub, Nat.reduceLT, Nat.reduceLeDiff, Nat.reduceEqDiff, Nat.reduceBEq, Nat.reduceBNe, Nat.reduceGT, Nat.reduceDiv, Nat.reduceMod, Int.reduceAdd, Int.reduceSub, Int.reduceNeg, Int.reduceLT, Int.reduceLE, Int.reduceEq, Int.reduceToNat, fA, qc, e3, crR, eqs, eqt_crack, ne_cr]
    refine ⟨rfl, fun _ => hB _ ⟨i + 1, by omega⟩ [] (by simp only; omega) rfl ?_⟩
    simp (maxSteps := 2000000) only [enA, ↓enP, Nat.reduceAdd, Nat.reduceMul, Nat.reduceSub, Nat.reduceLT, Nat.reduceLeDiff, Nat.reduceEqDiff, Nat.reduceBEq, ↓reduceIte, reduceCtorEq, fA]
  have qc : (i < b.cracks.length) = False := eq_false hc
  simp (maxSteps := 2000000) only [vcA, ↓vcP, ↓reduceIte, reduceCtorEq, Nat.reduceAdd, Nat.reduceMul, Nat.reduceSub, Nat.reduceLT, Nat.reduceLeDiff, Nat.reduceEqDiff, Nat.reduceBEq, Nat.reduceBNe, Nat.reduceGT, Nat.reduceDiv, Nat.reduceMod, Int.reduceAdd, Int.reduceSub, Int.reduceNeg, Int.reduceLT, Int.reduceLE, Int.reduceEq, Int.reduceToNat, fA, qc]
  refine hR _ (fin_of0 ?_)
  simp (maxSteps := 2000000) only [enA, ↓enP, Nat.reduceAdd, Nat.reduceMul, Nat.reduceSub, Nat.reduceLT, Nat.reduceLeDiff, Nat.reduceEqDiff, Nat.reduceBEq, ↓reduceIte, reduceCtorEq, fA]
def large (b : Bl) : Bool := decide (b.bottom.length > 40) || decide (b.top.length > 40) || decide (b.cracks.length > 10)
theorem large_spec (b : Bl) : SpecF Try.prog 18 [.agg [.sl 2 (b.bottom.map spR), .sl 2 (b.top.map spR), .v (.int .i64 b.bend), .sl 6 (b.cracks.map crR)]] (.v (.bool (large b))) [] := by
  refine spec_go (N := 19) (rs := [.tmp 2]) (eq := eqs) rfl rfl fun_18 rfl (by kernel_rfl) (by kernel_rfl) (by simp) (by simp) (by simp) (by simp) fun R hR => ?_
  simp (maxSteps := 2000000) only [vcA, ↓vcP, ↓reduceIte, reduceCtorEq, Nat.reduceAdd, Nat.reduceMul, Nat.reduceSub, Nat.reduceLT, Nat.reduceLeDiff, Nat.reduceEqDiff, Nat.reduceBEq, Nat.reduceBNe, Nat.reduceGT, Nat.reduceDiv, Nat.reduceMod, Int.reduceAdd, Int.reduceSub, Int.reduceNeg, Int.reduceLT, Int.reduceLE, Int.reduceEq, Int.reduceToNat, fA]
  refine ⟨fun g1 => ⟨fun g2 => hR _ (fin_of0 ?_), fun g2 => hR _ (fin_of0 ?_)⟩, fun g1 => hR _ (fin_of0 ?_)⟩
  · simp (maxSteps := 2000000) only [enA, ↓enP, Nat.reduceAdd, Nat.reduceMul, Nat.reduceSub, Nat.reduceLT, Nat.reduceLeDiff, Nat.reduceEqDiff, Nat.reduceBEq, ↓reduceIte, reduceCtorEq, fA]
    unfold large
    rw [decide_eq_false (show ¬ (b.bottom.length > 40) by omega), decide_eq_false (show ¬ (b.top.length > 40) by omega), Bool.false_or, Bool.false_or, Bool.eq_iff_iff]
    simp
    omega
  · simp (maxSteps := 2000000) only [enA, ↓enP, Nat.reduceAdd, Nat.reduceMul, Nat.reduceSub, Nat.reduceLT, Nat.reduceLeDiff, Nat.reduceEqDiff, Nat.reduceBEq, ↓reduceIte, reduceCtorEq, fA]
    unfold large
    rw [decide_eq_true (show b.top.length > 40 by omega)]
    simp
  · simp (maxSteps := 2000000) only [enA, ↓enP, Nat.reduceAdd, Nat.reduceMul, Nat.reduceSub, Nat.reduceLT, Nat.reduceLeDiff, Nat.reduceEqDiff, Nat.reduceBEq, ↓reduceIte, reduceCtorEq, fA]
    unfold large
    rw [decide_eq_true (show b.bottom.length > 40 by omega)]
    simp
theorem open2_spec (b : Bl) (s : Sw) (h : Small b) : SpecF Try.prog 23 [.agg [.sl 2 (b.bottom.map spR), .sl 2 (b.top.map spR), .v (.int .i64 b.bend), .sl 6 (b.cracks.map crR)], .agg [.v (.int .i64 s.long), .v (.int .i64 s.wide), .v (.int .i64 s.kerf), .v (.int .i64 s.across)]] (.v (.int .i64 (openErr b s))) [] := by
  obtain ⟨h1, h2, h3⟩ := h
  refine spec_go (N := 14) (rs := [.tmp 4]) (eq := eqs) rfl rfl fun_23 rfl (by kernel_rfl) (by kernel_rfl) (by simp) (by simp) (by simp) (by simp) fun R hR => ?_
  simp (maxSteps := 2000000) only [vcA, ↓vcP, ↓reduceIte, reduceCtorEq, Nat.reduceAdd, Nat.reduceMul, Nat.reduceSub, Nat.reduceLT, Nat.reduceLeDiff, Nat.reduceEqDiff, Nat.reduceBEq, Nat.reduceBNe, Nat.reduceGT, Nat.reduceDiv, Nat.reduceMod, Int.reduceAdd, Int.reduceSub, Int.reduceNeg, Int.reduceLT, Int.reduceLE, Int.reduceEq, Int.reduceToNat, fA]
  refine onF_data (check_spec b (by omega) (by omega)) ?_ ?_
  · simp (maxSteps := 2000000) only [okA, ↓okP, Nat.reduceAdd, Nat.reduceMul, Nat.reduceSub, Nat.reduceLT, Nat.reduceLeDiff, Nat.reduceEqDiff, Nat.reduceBEq, ↓reduceIte, reduceCtorEq]
  simp (maxSteps := 2000000) only [vcA, ↓vcP, ↓reduceIte, reduceCtorEq, Nat.reduceAdd, Nat.reduceMul, Nat.reduceSub, Nat.reduceLT, Nat.reduceLeDiff, Nat.reduceEqDiff, Nat.reduceBEq, Nat.reduceBNe, Nat.reduceGT, Nat.reduceDiv, Nat.reduceMod, Int.reduceAdd, Int.reduceSub, Int.reduceNeg, Int.reduceLT, Int.reduceLE, Int.reduceEq, Int.reduceToNat, fA]
  refine ⟨fun g1 => hR _ (fin_of0 ?_), fun g1 => ?_⟩
  · have g1 : newErr b ≠ 0 := by simpa using g1
    have : openErr b s = newErr b := by unfold openErr; rw [if_pos g1]
    rw [this]
    simp (maxSteps := 2000000) only [enA, ↓enP, Nat.reduceAdd, Nat.reduceMul, Nat.reduceSub, Nat.reduceLT, Nat.reduceLeDiff, Nat.reduceEqDiff, Nat.reduceBEq, ↓reduceIte, reduceCtorEq, fA]
  have g1 : newErr b = 0 := by simpa using g1
  refine onF_data (saw2_spec s) ?_ ?_
  · simp (maxSteps := 2000000) only [okA, ↓okP, Nat.reduceAdd, Nat.reduceMul, Nat.reduceSub, Nat.reduceLT, Nat.reduceLeDiff, Nat.reduceEqDiff, Nat.reduceBEq, ↓reduceIte, reduceCtorEq]
  simp (maxSteps := 2000000) only [vcA, ↓vcP, ↓reduceIte, reduceCtorEq, Nat.reduceAdd, Nat.reduceMul, Nat.reduceSub, Nat.reduceLT, Nat.reduceLeDiff, Nat.reduceEqDiff, Nat.reduceBEq, Nat.reduceBNe, Nat.reduceGT, Nat.reduceDiv, Nat.reduceMod, Int.reduceAdd, Int.reduceSub, Int.reduceNeg, Int.reduceLT, Int.reduceLE, Int.reduceEq, Int.reduceToNat, fA]
  refine ⟨fun g2 => hR _ (fin_of0 ?_), fun g2 => hR _ (fin_of0 ?_)⟩
  · have : openErr b s = 3 := by unfold openErr; rw [if_neg (by rw [g1]; simp), if_neg (by simpa using g2)]
    rw [this]
    simp (maxSteps := 2000000) only [enA, ↓enP, Nat.reduceAdd, Nat.reduceMul, Nat.reduceSub, Nat.reduceLT, Nat.reduceLeDiff, Nat.reduceEqDiff, Nat.reduceBEq, ↓reduceIte, reduceCtorEq, fA]
  · have : openErr b s = 0 := by unfold openErr; rw [if_neg (by rw [g1]; simp), if_pos (by simpa using g2)]
    rw [this]
    simp (maxSteps := 2000000) only [enA, ↓enP, Nat.reduceAdd, Nat.reduceMul, Nat.reduceSub, Nat.reduceLT, Nat.reduceLeDiff, Nat.reduceEqDiff, Nat.reduceBEq, ↓reduceIte, reduceCtorEq, fA]
end Go.Proofs.Ytfaekiaegebmbaa.Ab.T01
