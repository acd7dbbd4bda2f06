/- Contracts of the blade's functions: a new blade; what its edges can be. -/
import Derived.Test.YtfaekiaegebmbaaC3
namespace Go.Proofs.Ytfaekiaegebmbaa.Ab
open Go Go.RowKit
set_option linter.unusedVariables false
set_option linter.unusedSimpArgs false
set_option maxRecDepth 100000
def newB (b : Bl) : Bl := if newErr b = 0 then b else ⟨[], [], 0, []⟩
def newLow (b : Bl) : List Sp := if newErr b = 0 then (bentS b.bend b.bottom).getD [] else []
def newTop (b : Bl) : List Sp := if newErr b = 0 then (bentS b.bend b.top).getD [] else []
theorem new_spec (b : Bl) (h1 : b.bottom.length < 1000000) (h2 : b.top.length < 1000000) : SpecF Try.prog 47 [.agg [.sl 2 (b.bottom.map spR), .sl 2 (b.top.map spR), .v (.int .i64 b.bend), .sl 6 (b.cracks.map crR)]]
    (.tup [.agg [.sl 2 ((newB b).bottom.map spR), .sl 2 ((newB b).top.map spR), .v (.int .i64 (newB b).bend), .sl 6 ((newB b).cracks.map crR), .ob 0 (newLow b).length, .ob 1 (newTop b).length], .v (.int .i64 (newErr b))])
    [.row 44 2 ((newLow b).map spR) false, .row 44 2 ((newTop b).map spR) false] := by
  have hbad : newErr b ≠ 0 → newB b = ⟨[], [], 0, []⟩ ∧ newLow b = [] ∧ newTop b = [] := fun h => by
    unfold newB newLow newTop
    rw [if_neg h, if_neg h, if_neg h]
    exact ⟨rfl, rfl, rfl⟩
  refine spec_go (N := 42) (rs := [.cell 2 104, .tmp 3]) (eq := eqs) rfl rfl fun_47 rfl (by kernel_rfl) (by kernel_rfl) (by simp) (by simp) (by simp) (by simp) fun R hR => ?_
  simp (maxSteps := 2000000) only [vcA, ↓vcP, ↓reduceIte, reduceCtorEq, Nat.reduceAdd, Nat.reduceMul, Nat.reduceSub, Nat.reduceLT, Nat.reduceLeDiff, Nat.reduceEqDiff, Nat.reduceBEq, Nat.reduceBNe, Nat.reduceGT, Nat.reduceDiv, Nat.reduceMod, Int.reduceAdd, Int.reduceSub, Int.reduceNeg, Int.reduceLT, Int.reduceLE, Int.reduceEq, Int.reduceToNat, fA]
  refine onF_data (form_spec b h1 h2) ?_ ?_
  · simp (maxSteps := 2000000) only [okA, ↓okP, Nat.reduceAdd, Nat.reduceMul, Nat.reduceSub, Nat.reduceLT, Nat.reduceLeDiff, Nat.reduceEqDiff, Nat.reduceBEq, ↓reduceIte, reduceCtorEq]
  simp (maxSteps := 2000000) only [vcA, ↓vcP, ↓reduceIte, reduceCtorEq, Nat.reduceAdd, Nat.reduceMul, Nat.reduceSub, Nat.reduceLT, Nat.reduceLeDiff, Nat.reduceEqDiff, Nat.reduceBEq, Nat.reduceBNe, Nat.reduceGT, Nat.reduceDiv, Nat.reduceMod, Int.reduceAdd, Int.reduceSub, Int.reduceNeg, Int.reduceLT, Int.reduceLE, Int.reduceEq, Int.reduceToNat, fA]
  refine ⟨fun h3 => hR _ (fin_of1 [none, none] ?_), fun h3 => ?_⟩
  · have h4 : formErr b ≠ 0 := by simpa using h3
    have h5 : newErr b = formErr b := by unfold newErr; rw [if_pos h4]
    obtain ⟨e1, e2, e3⟩ := hbad (by rw [h5]; exact h4)
    rw [e1, e2, e3, h5]
    simp (maxSteps := 2000000) only [enA, ↓enP, Nat.reduceAdd, Nat.reduceMul, Nat.reduceSub, Nat.reduceLT, Nat.reduceLeDiff, Nat.reduceEqDiff, Nat.reduceBEq, ↓reduceIte, reduceCtorEq, fA]
  have h4 : formErr b = 0 := by simpa using h3
  obtain ⟨g1, g2, g3, g4, g5, g6, _⟩ := form_ok h4
  obtain ⟨o1, o2⟩ := edges_okl g1 g6
  have hE : newErr b = if (bentS b.bend b.bottom).isNone ∨ (bentS b.bend b.top).isNone then 9 else 0 := by unfold newErr; rw [if_neg (by rw [h4]; simp)]
  refine onF_call (bent_spec b.bottom b.bend (by omega) o1 g5) [] [] [] ?_ ?_
  · simp (maxSteps := 2000000) only [okA, ↓okP, Nat.reduceAdd, Nat.reduceMul, Nat.reduceSub, Nat.reduceLT, Nat.reduceLeDiff, Nat.reduceEqDiff, Nat.reduceBEq, ↓reduceIte, reduceCtorEq]
  simp (maxSteps := 2000000) only [vcA, ↓vcP, ↓reduceIte, reduceCtorEq, Nat.reduceAdd, Nat.reduceMul, Nat.reduceSub, Nat.reduceLT, Nat.reduceLeDiff, Nat.reduceEqDiff, Nat.reduceBEq, Nat.reduceBNe, Nat.reduceGT, Nat.reduceDiv, Nat.reduceMod, Int.reduceAdd, Int.reduceSub, Int.reduceNeg, Int.reduceLT, Int.reduceLE, Int.reduceEq, Int.reduceToNat, fA]
  refine onF_call (bent_spec b.top b.bend (by omega) o2 g5) [] [] [] ?_ ?_
  · simp (maxSteps := 2000000) only [okA, ↓okP, Nat.reduceAdd, Nat.reduceMul, Nat.reduceSub, Nat.reduceLT, Nat.reduceLeDiff, Nat.reduceEqDiff, Nat.reduceBEq, ↓reduceIte, reduceCtorEq]
  simp (maxSteps := 2000000) only [vcA, ↓vcP, ↓reduceIte, reduceCtorEq, Nat.reduceAdd, Nat.reduceMul, Nat.reduceSub, Nat.reduceLT, Nat.reduceLeDiff, Nat.reduceEqDiff, Nat.reduceBEq, Nat.reduceBNe, Nat.reduceGT, Nat.reduceDiv, Nat.reduceMod, Int.reduceAdd, Int.reduceSub, Int.reduceNeg, Int.reduceLT, Int.reduceLE, Int.reduceEq, Int.reduceToNat, fA]
  have bad9 : ((bentS b.bend b.bottom).isNone ∨ (bentS b.bend b.top).isNone) → newErr b = 9 ∧ newB b = ⟨[], [], 0, []⟩ ∧ newLow b = [] ∧ newTop b = [] := fun h => by
    have e : newErr b = 9 := by rw [hE, if_pos h]
    exact ⟨e, hbad (by rw [e]; omega)⟩
  refine ⟨fun h5 => ⟨fun h6 => hR _ (fin_of1 [none, none] ?_), fun h6 => hR _ (fin_of1 [some 104, some 184] ?_)⟩, fun h5 => hR _ (fin_of1 [none, none] ?_)⟩
  · obtain ⟨e1, e2, e3, e4⟩ := bad9 (.inr (by simpa using h6))
    rw [e1, e2, e3, e4]
    simp (maxSteps := 2000000) only [enA, ↓enP, Nat.reduceAdd, Nat.reduceMul, Nat.reduceSub, Nat.reduceLT, Nat.reduceLeDiff, Nat.reduceEqDiff, Nat.reduceBEq, ↓reduceIte, reduceCtorEq, fA]
  · have e : newErr b = 0 := by
      rw [hE, if_neg]
      simp at h5 h6
      simp [Option.isSome_iff_ne_none] at h5 h6
      simp [h5, h6]
    have e1 : newB b = b := by unfold newB; rw [if_pos e]
    have e2 : newLow b = (bentS b.bend b.bottom).getD [] := by unfold newLow; rw [if_pos e]
    have e3 : newTop b = (bentS b.bend b.top).getD [] := by unfold newTop; rw [if_pos e]
    rw [e, e1, e2, e3]
    simp (maxSteps := 2000000) only [enA, ↓enP, Nat.reduceAdd, Nat.reduceMul, Nat.reduceSub, Nat.reduceLT, Nat.reduceLeDiff, Nat.reduceEqDiff, Nat.reduceBEq, ↓reduceIte, reduceCtorEq, fA]
  · obtain ⟨e1, e2, e3, e4⟩ := bad9 (.inl (by simpa using h5))
    rw [e1, e2, e3, e4]
    simp (maxSteps := 2000000) only [enA, ↓enP, Nat.reduceAdd, Nat.reduceMul, Nat.reduceSub, Nat.reduceLT, Nat.reduceLeDiff, Nat.reduceEqDiff, Nat.reduceBEq, ↓reduceIte, reduceCtorEq, fA]
theorem curve_spec (b : Bl) (h1 : b.bottom.length < 1000000) (h2 : b.top.length < 1000000) : SpecF Try.prog 13 [.agg [.sl 2 (b.bottom.map spR), .sl 2 (b.top.map spR), .v (.int .i64 b.bend), .sl 6 (b.cracks.map crR)]]
    (.tup [.ob 0 (newLow b).length, .ob 1 (newTop b).length, .v (.int .i64 (newErr b))])
    [.row 44 2 ((newLow b).map spR) false, .row 44 2 ((newTop b).map spR) false] := by
  refine spec_go (N := 16) (rs := [.tmp 2, .tmp 3, .tmp 4]) (eq := eqs) rfl rfl fun_13 rfl (by kernel_rfl) (by kernel_rfl) (by simp) (by simp) (by simp) (by simp) fun R hR => ?_
  simp (maxSteps := 2000000) only [vcA, ↓vcP, ↓reduceIte, reduceCtorEq, Nat.reduceAdd, Nat.reduceMul, Nat.reduceSub, Nat.reduceLT, Nat.reduceLeDiff, Nat.reduceEqDiff, Nat.reduceBEq, Nat.reduceBNe, Nat.reduceGT, Nat.reduceDiv, Nat.reduceMod, Int.reduceAdd, Int.reduceSub, Int.reduceNeg, Int.reduceLT, Int.reduceLE, Int.reduceEq, Int.reduceToNat, fA]
  refine onF_call (new_spec b h1 h2) [] [] [] ?_ ?_
  · simp (maxSteps := 2000000) only [okA, ↓okP, Nat.reduceAdd, Nat.reduceMul, Nat.reduceSub, Nat.reduceLT, Nat.reduceLeDiff, Nat.reduceEqDiff, Nat.reduceBEq, ↓reduceIte, reduceCtorEq]
  simp (maxSteps := 2000000) only [vcA, ↓vcP, ↓reduceIte, reduceCtorEq, Nat.reduceAdd, Nat.reduceMul, Nat.reduceSub, Nat.reduceLT, Nat.reduceLeDiff, Nat.reduceEqDiff, Nat.reduceBEq, Nat.reduceBNe, Nat.reduceGT, Nat.reduceDiv, Nat.reduceMod, Int.reduceAdd, Int.reduceSub, Int.reduceNeg, Int.reduceLT, Int.reduceLE, Int.reduceEq, Int.reduceToNat, fA]
  refine hR _ (fin_of1 [some 48, some 49] ?_)
  simp (maxSteps := 2000000) only [enA, ↓enP, Nat.reduceAdd, Nat.reduceMul, Nat.reduceSub, Nat.reduceLT, Nat.reduceLeDiff, Nat.reduceEqDiff, Nat.reduceBEq, ↓reduceIte, reduceCtorEq, fA]
end Go.Proofs.Ytfaekiaegebmbaa.Ab
