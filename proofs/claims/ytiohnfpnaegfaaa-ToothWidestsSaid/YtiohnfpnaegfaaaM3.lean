/- The reference: the widest sticks. -/
import Derived.Test.YtiohnfpnaegfaaaM1
import Derived.Test.YtiohnfpnaegfaaaP3
namespace Go.Proofs.Ytiohnfpnaegfaaa.Ab.T01
open Go Go.RowKit
set_option linter.unusedSimpArgs false
set_option linter.unusedVariables false
set_option maxRecDepth 100000
theorem widest2_spec (v : Vw) (s : Sw) (sticks : Int) (hv : v.Ok) (hs : sawOk s = true) : SpecF Try.prog 21 [.agg [.sl 1 (v.bottom.map iR), .sl 1 (v.top.map iR), .sl 6 (v.spoils.map refR)], .agg [.v (.int .i64 s.long), .v (.int .i64 s.wide), .v (.int .i64 s.kerf), .v (.int .i64 s.across)], .v (.int .i64 sticks)] (.v (.int .i64 (widR (enoughB v s sticks) 300))) [] := by
  refine spec_go (N := 21) (rs := [.tmp 6]) (eq := eqs) rfl rfl fun_21 rfl (by kernel_rfl) (by kernel_rfl) (by simp) (by simp) (by simp) (by simp) fun R hR => ?_
  simp (maxSteps := 2000000) only [vcA, ↓vcP, ↓reduceIte, reduceCtorEq, Nat.reduceAdd, Nat.reduceMul, Nat.reduceSub, Nat.reduceLT, Nat.reduceLeDiff, Nat.reduceEqDiff, Nat.reduceBEq, Nat.reduceBNe, Nat.reduceGT, Nat.reduceDiv, Nat.reduceMod, Int.reduceAdd, Int.reduceSub, Int.reduceNeg, Int.reduceLT, Int.reduceLE, Int.reduceEq, Int.reduceToNat, fA]
  refine goC_loop (α := {w : Nat × Int // w.1 ≤ 300 ∧ widR (enoughB v s sticks) 300 = widR (enoughB v s sticks) w.1}) (fun x => ⟨[(2, .v (.int .i64 sticks)), (3, .ptr 8 0), (4, .ptr 16 0), (7, .v (.int .i64 x.1.1))], [(8, .box 41 [.sl 1 (v.bottom.map iR), .sl 1 (v.top.map iR), .sl 6 (v.spoils.map refR)]), (16, .box 27 [.v (.int .i64 s.long), .v (.int .i64 x.1.2), .v (.int .i64 s.kerf), .v (.int .i64 s.across)])]⟩) (fun x => x.1.1) ⟨(300, s.wide), by omega, rfl⟩ [] ?_ ?_
  · simp (maxSteps := 2000000) only [enA, ↓enP, Nat.reduceAdd, Nat.reduceMul, Nat.reduceSub, Nat.reduceLT, Nat.reduceLeDiff, Nat.reduceEqDiff, Nat.reduceBEq, ↓reduceIte, reduceCtorEq, fA]
    rfl
  intro x B hB
  obtain ⟨⟨w, u⟩, hw, hinv⟩ := x
  simp only at hw hinv
  cases w with
  | zero =>
    have qc : ((0 : Int) > 0) = False := eq_false (by omega)
    simp (maxSteps := 2000000) only [vcA, ↓vcP, ↓reduceIte, reduceCtorEq, Nat.reduceAdd, Nat.reduceMul, Nat.reduceSub, Nat.reduceLT, Nat.reduceLeDiff, Nat.reduceEqDiff, Nat.reduceBEq, Nat.reduceBNe, Nat.reduceGT, Nat.reduceDiv, Nat.reduceMod, Int.reduceAdd, Int.reduceSub, Int.reduceNeg, Int.reduceLT, Int.reduceLE, Int.reduceEq, Int.reduceToNat, fA, qc]
    refine hR _ (fin_of0 ?_)
    rw [hinv]
    simp (maxSteps := 2000000) only [enA, ↓enP, Nat.reduceAdd, Nat.reduceMul, Nat.reduceSub, Nat.reduceLT, Nat.reduceLeDiff, Nat.reduceEqDiff, Nat.reduceBEq, ↓reduceIte, reduceCtorEq, fA]
    rfl
  | succ w =>
    have qc : (((w + 1 : Nat) : Int) > 0) = True := eq_true (by omega)
    have e1 : IntKind.i64.wrap (((w + 1 : Nat) : Int) - 1) = (w : Int) := by rw [wrap_id (by omega) (by omega)]; omega
    have hm := most2_spec v (wideS s ((w + 1 : Nat) : Int)) hv (wideS_ok hs (by omega))
    unfold wideS at hm
    simp (maxSteps := 2000000) only [vcA, ↓vcP, ↓reduceIte, reduceCtorEq, Nat.reduceAdd, Nat.reduceMul, Nat.reduceSub, Nat.reduceLT, Nat.reduceLeDiff, Nat.reduceEqDiff, Nat.reduceBEq, Nat.reduceBNe, Nat.reduceGT, Nat.reduceDiv, Nat.reduceMod, Int.reduceAdd, Int.reduceSub, Int.reduceNeg, Int.reduceLT, Int.reduceLE, Int.reduceEq, Int.reduceToNat, fA, qc, e1]
    have hst : widR (enoughB v s sticks) (w + 1) = if enoughB v s sticks ((w + 1 : Nat) : Int) then ((w + 1 : Nat) : Int) else widR (enoughB v s sticks) w := rfl
    have hE : enoughB v s sticks ((w + 1 : Nat) : Int) = decide (((mostI v ⟨s.long, ((w + 1 : Nat) : Int), s.kerf, s.across⟩).length : Int) ≥ sticks) := rfl
    refine onF_data hm ?_ ?_
    · simp (maxSteps := 2000000) only [okA, ↓okP, Nat.reduceAdd, Nat.reduceMul, Nat.reduceSub, Nat.reduceLT, Nat.reduceLeDiff, Nat.reduceEqDiff, Nat.reduceBEq, ↓reduceIte, reduceCtorEq]
    simp (maxSteps := 2000000) only [vcA, ↓vcP, ↓reduceIte, reduceCtorEq, Nat.reduceAdd, Nat.reduceMul, Nat.reduceSub, Nat.reduceLT, Nat.reduceLeDiff, Nat.reduceEqDiff, Nat.reduceBEq, Nat.reduceBNe, Nat.reduceGT, Nat.reduceDiv, Nat.reduceMod, Int.reduceAdd, Int.reduceSub, Int.reduceNeg, Int.reduceLT, Int.reduceLE, Int.reduceEq, Int.reduceToNat, fA, qc, e1]
    refine ⟨fun c => hR _ (fin_of0 ?_), fun c => hB _ ⟨(w, ((w + 1 : Nat) : Int)), by simp only; omega, ?_⟩ [] (by simp only; omega) rfl ?_⟩
    · rw [hinv, hst, if_pos (by rw [hE]; exact decide_eq_true c)]
      simp (maxSteps := 2000000) only [enA, ↓enP, Nat.reduceAdd, Nat.reduceMul, Nat.reduceSub, Nat.reduceLT, Nat.reduceLeDiff, Nat.reduceEqDiff, Nat.reduceBEq, ↓reduceIte, reduceCtorEq, fA]
    · rw [hinv, hst, if_neg (by rw [hE, decide_eq_false c]; simp)]
    · simp (maxSteps := 2000000) only [enA, ↓enP, Nat.reduceAdd, Nat.reduceMul, Nat.reduceSub, Nat.reduceLT, Nat.reduceLeDiff, Nat.reduceEqDiff, Nat.reduceBEq, ↓reduceIte, reduceCtorEq, fA]
end Go.Proofs.Ytiohnfpnaegfaaa.Ab.T01
