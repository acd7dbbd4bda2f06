/- The reference: a blade's error. The reference: a blade in the worst of all truths; whether a stick is sound. -/
import Derived.Test.YtafpicjnccffgaaZR3
namespace Go.Proofs.Ytafpicjnccffgaa.Ab.T01
open Go Go.RowKit
set_option linter.unusedSimpArgs false
set_option linter.unusedVariables false
set_option maxRecDepth 100000
theorem bent_nil {l : List Sp} {bend : Int} (hok : Okl l) (h0 : l.length ≠ 0) : ((((bentS bend l).getD []).length : Int) == 0) = (bentS bend l).isNone := by
  cases h : bentS bend l with
  | none => rfl
  | some R =>
    have := (bentS_ok hok h).2
    show ((R.length : Int) == 0) = false
    rw [this]
    exact beq_eq_false_iff_ne.2 (by omega)
theorem curve2_spec (l : List Sp) (bend : Int) (hl : l.length < 1000) (hok : Okl l) (hb : 0 ≤ bend ∧ bend ≤ 300) : SpecF Try.prog 52 [.sl 2 (l.map spR), .v (.int .i64 bend)] (.sl 2 (((bentS bend l).getD []).map spR)) [] := by
  rw [← curveR_eq hok hb.1]
  exact refCurve_spec l bend hl hok hb
def crkOk2 (c : Crk) (n : Int) : Bool := isSpan c.col 0 (n - 1) && !decide (c.col.2 - c.col.1 > 4) && isSpan c.frm 0 300 && isSpan c.to 0 300 && !decide (c.frm.2 > c.to.1)
theorem crkOk2_eq (c : Crk) (n : Int) : crkOk2 c n = isCrack c n := by
  unfold crkOk2 isCrack isEdges isHeight
  rw [Bool.eq_iff_iff]
  cases isSpan c.col 0 (n - 1) <;> cases isSpan c.frm 0 300 <;> cases isSpan c.to 0 300 <;> simp <;> omega
theorem check_spec (b : Bl) (h1 : b.bottom.length < 1000000) (h2 : b.top.length < 1000000) : SpecF Try.prog 43 [.agg [.sl 2 (b.bottom.map spR), .sl 2 (b.top.map spR), .v (.int .i64 b.bend), .sl 6 (b.cracks.map crR)]] (.v (.int .i64 (newErr b))) [] := by
  have bad : ∀ e, formErr b = e → e ≠ 0 → newErr b = e := fun e h he => by unfold newErr; rw [if_pos (by rw [h]; exact he), h]
  refine spec_go (N := 133) (rs := [.tmp 2]) (eq := eqs) rfl rfl fun_43 rfl (by kernel_rfl) (by kernel_rfl) (by simp) (by simp) (by simp) (by simp) fun R hR => ?_
  simp (maxSteps := 2000000) only [vcA, ↓vcP, ↓reduceIte, reduceCtorEq, Nat.reduceAdd, Nat.reduceMul, Nat.reduceSub, Nat.reduceLT, Nat.reduceLeDiff, Nat.reduceEqDiff, Nat.reduceBEq, Nat.reduceBNe, Nat.reduceGT, Nat.reduceDiv, Nat.reduceMod, Int.reduceAdd, Int.reduceSub, Int.reduceNeg, Int.reduceLT, Int.reduceLE, Int.reduceEq, Int.reduceToNat, fA]
  refine ⟨fun h3 => ?_, fun h3 => hR _ (fin_of0 ?_)⟩
  rotate_left
  · have h4 : b.bottom.length ≠ b.top.length := by simp at h3; omega
    rw [bad 4 (by unfold formErr; rw [if_pos (.inl h4)]) (by omega)]
    simp (maxSteps := 2000000) only [enA, ↓enP, Nat.reduceAdd, Nat.reduceMul, Nat.reduceSub, Nat.reduceLT, Nat.reduceLeDiff, Nat.reduceEqDiff, Nat.reduceBEq, ↓reduceIte, reduceCtorEq, fA]
  have h4 : b.bottom.length = b.top.length := by simp at h3; omega
  refine onF_data (in_spec b.bottom.length 1 30) ?_ ?_
  · simp (maxSteps := 2000000) only [okA, ↓okP, Nat.reduceAdd, Nat.reduceMul, Nat.reduceSub, Nat.reduceLT, Nat.reduceLeDiff, Nat.reduceEqDiff, Nat.reduceBEq, ↓reduceIte, reduceCtorEq]
  simp (maxSteps := 2000000) only [vcA, ↓vcP, ↓reduceIte, reduceCtorEq, Nat.reduceAdd, Nat.reduceMul, Nat.reduceSub, Nat.reduceLT, Nat.reduceLeDiff, Nat.reduceEqDiff, Nat.reduceBEq, Nat.reduceBNe, Nat.reduceGT, Nat.reduceDiv, Nat.reduceMod, Int.reduceAdd, Int.reduceSub, Int.reduceNeg, Int.reduceLT, Int.reduceLE, Int.reduceEq, Int.reduceToNat, fA]
  refine ⟨fun h5 => hR _ (fin_of0 ?_), fun h5 => ⟨fun h6 => hR _ (fin_of0 ?_), fun h6 => ?_⟩⟩
  · rw [bad 4 (by unfold formErr; rw [if_pos (.inr (by simpa using h5))]) (by omega)]
    simp (maxSteps := 2000000) only [enA, ↓enP, Nat.reduceAdd, Nat.reduceMul, Nat.reduceSub, Nat.reduceLT, Nat.reduceLeDiff, Nat.reduceEqDiff, Nat.reduceBEq, ↓reduceIte, reduceCtorEq, fA]
  · rw [bad 5 (by unfold formErr; rw [if_neg (by rintro (h | h); exact h h4; rw [h] at h5; simp at h5), if_pos (by omega)]) (by omega)]
    simp (maxSteps := 2000000) only [enA, ↓enP, Nat.reduceAdd, Nat.reduceMul, Nat.reduceSub, Nat.reduceLT, Nat.reduceLeDiff, Nat.reduceEqDiff, Nat.reduceBEq, ↓reduceIte, reduceCtorEq, fA]
  have hb : betw 1 30 [(b.bottom.length : Int)] = true := by simpa using h5
  have hn := betw1 hb
  have e1 : ∀ x, formErr b = x ↔ (if betw 0 300 [b.bend] = false ∨ (b.cracks.any fun c => !isCrack c b.bottom.length) = true then 2 else if edgesOk b = false then 2 else 0) = x := fun x => by
    unfold formErr
    rw [if_neg (by rintro (h | h); exact h h4; rw [h] at hb; simp at hb), if_neg (by omega)]
  -- if anything else is wrong the error is 2
  have two : (betw 0 300 [b.bend] = false ∨ (b.cracks.any fun c => !isCrack c b.bottom.length) = true ∨ edgesOk b = false) → newErr b = 2 := fun h => bad 2 (by
    rw [e1]
    rcases h with h | h | h
    · rw [if_pos (.inl h)]
    · rw [if_pos (.inr h)]
    · rw [h, if_pos rfl]
      split <;> rfl) (by omega)
  refine goC_loop (α := {i : Nat // i ≤ b.bottom.length ∧ ∀ j, j < i → isEdges (nth b.bottom j) (nth b.top j) = true}) (fun x => ⟨[(1, .ptr 8 0), (3, .v (.int .i64 x.1))], [(8, .box 25 [.sl 2 (b.bottom.map spR), .sl 2 (b.top.map spR), .v (.int .i64 b.bend), .sl 6 (b.cracks.map crR)])]⟩) (fun x => b.bottom.length - x.1) ⟨0, by omega, by omega⟩ [] ?_ ?_
  · simp (maxSteps := 2000000) only [enA, ↓enP, Nat.reduceAdd, Nat.reduceMul, Nat.reduceSub, Nat.reduceLT, Nat.reduceLeDiff, Nat.reduceEqDiff, Nat.reduceBEq, ↓reduceIte, reduceCtorEq, fA]
    rfl
  intro x B hB
  obtain ⟨i, hi, hx⟩ := x
  by_cases hc : i < b.bottom.length
  · have qc : (i < b.bottom.length) = True := eq_true hc
    have qt : (i < b.top.length) = True := eq_true (by omega)
    have e3 : IntKind.i64.wrap ((i : Int) + 1) = ((i + 1 : Nat) : Int) := wrap_id (by omega) (by omega)
    have bade : isEdges (nth b.bottom i) (nth b.top i) = false → newErr b = 2 := fun h => two (.inr (.inr (by
      unfold edgesOk
      rw [List.all_eq_false]
      exact ⟨i, List.mem_range.2 hc, by simpa using h⟩)))
    have hE : isEdges (nth b.bottom i) (nth b.top i) = (isSpan (nth b.bottom i) 0 300 && isSpan (nth b.top i) 0 300 && decide ((nth b.bottom i).2 ≤ (nth b.top i).1)) := rfl
    simp (maxSteps := 2000000) only [vcA, ↓vcP, ↓reduceIte, reduceCtorEq, Nat.reduceAdd, Nat.reduceMul, Nat.reduceSub, Nat.reduceLT, Nat.reduceLeDiff, Nat.reduceEqDiff, Nat.reduceBEq, Nat.reduceBNe, Nat.reduceGT, Nat.reduceDiv, Nat.reduceMod, Int.reduceAdd, Int.reduceSub, Int.reduceNeg, Int.reduceLT, Int.reduceLE, Int.reduceEq, Int.reduceToNat, fA, qc, qt, e3, spR]
    refine onF_data (span2_spec (nth b.bottom i) 0 300) ?_ ?_
    · simp (maxSteps := 2000000) only [okA, ↓okP, Nat.reduceAdd, Nat.reduceMul, Nat.reduceSub, Nat.reduceLT, Nat.reduceLeDiff, Nat.reduceEqDiff, Nat.reduceBEq, ↓reduceIte, reduceCtorEq]
    simp (maxSteps := 2000000) only [vcA, ↓vcP, ↓reduceIte, reduceCtorEq, Nat.reduceAdd, Nat.reduceMul, Nat.reduceSub, Nat.reduceLT, Nat.reduceLeDiff, Nat.reduceEqDiff, Nat.reduceBEq, Nat.reduceBNe, Nat.reduceGT, Nat.reduceDiv, Nat.reduceMod, Int.reduceAdd, Int.reduceSub, Int.reduceNeg, Int.reduceLT, Int.reduceLE, Int.reduceEq, Int.reduceToNat, fA, qc, qt, e3, spR]
    refine ⟨fun g1 => ?_, fun g1 => hR _ (fin_of0 ?_)⟩
    · refine onF_data (span2_spec (nth b.top i) 0 300) ?_ ?_
      · simp (maxSteps := 2000000) only [okA, ↓okP, Nat.reduceAdd, Nat.reduceMul, Nat.reduceSub, Nat.reduceLT, Nat.reduceLeDiff, Nat.reduceEqDiff, Nat.reduceBEq, ↓reduceIte, reduceCtorEq]
      simp (maxSteps := 2000000) only [vcA, ↓vcP, ↓reduceIte, reduceCtorEq, Nat.reduceAdd, Nat.reduceMul, Nat.reduceSub, Nat.reduceLT, Nat.reduceLeDiff, Nat.reduceEqDiff, Nat.reduceBEq, Nat.reduceBNe, Nat.reduceGT, Nat.reduceDiv, Nat.reduceMod, Int.reduceAdd, Int.reduceSub, Int.reduceNeg, Int.reduceLT, Int.reduceLE, Int.reduceEq, Int.reduceToNat, fA, qc, qt, e3, spR]
      repeat (first | refine ⟨by kernel_rfl, ?_⟩ | refine ⟨⟨by kernel_rfl, by kernel_rfl⟩, ?_⟩ | refine ⟨⟨by kernel_rfl, by kernel_rfl, by kernel_rfl⟩, ?_⟩ | refine ⟨⟨by kernel_rfl, by kernel_rfl, by kernel_rfl, by kernel_rfl⟩, ?_⟩ | refine ⟨⟨by kernel_rfl, by kernel_rfl, by kernel_rfl, by kernel_rfl, by kernel_rfl⟩, ?_⟩ | refine ⟨⟨by kernel_rfl, by kernel_rfl, by kernel_rfl, by kernel_rfl, by kernel_rfl, by kernel_rfl⟩, ?_⟩ | refine ⟨⟨by kernel_rfl, by kernel_rfl, by kernel_rfl, by kernel_rfl, by kernel_rfl, by kernel_rfl, by kernel_rfl⟩, ?_⟩ | refine ⟨⟨by kernel_rfl, by kernel_rfl, by kernel_rfl, by kernel_rfl, by kernel_rfl, by kernel_rfl, by kernel_rfl, by kernel_rfl⟩, ?_⟩ | refine ⟨⟨by kernel_rfl, by kernel_rfl, by kernel_rfl, by kernel_rfl, by kernel_rfl, by kernel_rfl, by kernel_rfl, by kernel_rfl, by kernel_rfl⟩, ?_⟩ | refine ⟨⟨by kernel_rfl, by kernel_rfl, by kernel_rfl, by kernel_rfl, by kernel_rfl, by kernel_rfl, by kernel_rfl, by kernel_rfl, by kernel_rfl, by kernel_rfl⟩, ?_⟩ | refine ⟨⟨by kernel_rfl, by kernel_rfl, by kernel_rfl, by kernel_rfl, by kernel_rfl, by kernel_rfl, by kernel_rfl, by kernel_rfl, by kernel_rfl, by kernel_rfl, by kernel_rfl⟩, ?_⟩ | refine ⟨⟨by kernel_rfl, by kernel_rfl, by kernel_rfl, by kernel_rfl, by kernel_rfl, by kernel_rfl, by kernel_rfl, by kernel_rfl, by kernel_rfl, by kernel_rfl, by kernel_rfl, by kernel_rfl⟩, ?_⟩ | refine ⟨⟨by kernel_rfl, by kernel_rfl, by kernel_rfl, by kernel_rfl, by kernel_rfl, by kernel_rfl, by kernel_rfl, by kernel_rfl, by kernel_rfl, by kernel_rfl, by kernel_rfl, by kernel_rfl, by kernel_rfl⟩, ?_⟩)
      refine ⟨fun g2 => ?_, fun g2 => hR _ (fin_of0 ?_)⟩
      · refine ⟨fun g3 => hR _ (fin_of0 ?_), fun g3 => hB _ ⟨i + 1, by omega, fun j hj => ?_⟩ [] (by simp only; omega) rfl ?_⟩
        · rw [bade (by rw [hE, decide_eq_false (by omega)]; simp)]
          simp (maxSteps := 2000000) only [enA, ↓enP, Nat.reduceAdd, Nat.reduceMul, Nat.reduceSub, Nat.reduceLT, Nat.reduceLeDiff, Nat.reduceEqDiff, Nat.reduceBEq, ↓reduceIte, reduceCtorEq, fA]
        · by_cases e : j = i
          · subst e
            rw [hE]
            simp at g1 g2
            simp [g1, g2]
            omega
          · exact hx j (by omega)
        · simp (maxSteps := 2000000) only [enA, ↓enP, Nat.reduceAdd, Nat.reduceMul, Nat.reduceSub, Nat.reduceLT, Nat.reduceLeDiff, Nat.reduceEqDiff, Nat.reduceBEq, ↓reduceIte, reduceCtorEq, fA]
      · rw [bade (by rw [hE]; simp at g2; simp [g2])]
        simp (maxSteps := 2000000) only [enA, ↓enP, Nat.reduceAdd, Nat.reduceMul, Nat.reduceSub, Nat.reduceLT, Nat.reduceLeDiff, Nat.reduceEqDiff, Nat.reduceBEq, ↓reduceIte, reduceCtorEq, fA]
    · rw [bade (by rw [hE]; simp at g1; simp [g1])]
      simp (maxSteps := 2000000) only [enA, ↓enP, Nat.reduceAdd, Nat.reduceMul, Nat.reduceSub, Nat.reduceLT, Nat.reduceLeDiff, Nat.reduceEqDiff, Nat.reduceBEq, ↓reduceIte, reduceCtorEq, fA]
  have qc : (i < b.bottom.length) = False := eq_false hc
  have hedge : edgesOk b = true := by
    unfold edgesOk
    rw [List.all_eq_true]
    intro j hj
    exact hx j (by have := List.mem_range.1 hj; omega)
  simp (maxSteps := 2000000) only [vcA, ↓vcP, ↓reduceIte, reduceCtorEq, Nat.reduceAdd, Nat.reduceMul, Nat.reduceSub, Nat.reduceLT, Nat.reduceLeDiff, Nat.reduceEqDiff, Nat.reduceBEq, Nat.reduceBNe, Nat.reduceGT, Nat.reduceDiv, Nat.reduceMod, Int.reduceAdd, Int.reduceSub, Int.reduceNeg, Int.reduceLT, Int.reduceLE, Int.reduceEq, Int.reduceToNat, fA, qc]
  refine onF_data (in_spec b.bend 0 300) ?_ ?_
  · simp (maxSteps := 2000000) only [okA, ↓okP, Nat.reduceAdd, Nat.reduceMul, Nat.reduceSub, Nat.reduceLT, Nat.reduceLeDiff, Nat.reduceEqDiff, Nat.reduceBEq, ↓reduceIte, reduceCtorEq]
  simp (maxSteps := 2000000) only [vcA, ↓vcP, ↓reduceIte, reduceCtorEq, Nat.reduceAdd, Nat.reduceMul, Nat.reduceSub, Nat.reduceLT, Nat.reduceLeDiff, Nat.reduceEqDiff, Nat.reduceBEq, Nat.reduceBNe, Nat.reduceGT, Nat.reduceDiv, Nat.reduceMod, Int.reduceAdd, Int.reduceSub, Int.reduceNeg, Int.reduceLT, Int.reduceLE, Int.reduceEq, Int.reduceToNat, fA]
  refine ⟨fun g => hR _ (fin_of0 ?_), fun g => ?_⟩
  · rw [two (.inl (by simpa using g))]
    simp (maxSteps := 2000000) only [enA, ↓enP, Nat.reduceAdd, Nat.reduceMul, Nat.reduceSub, Nat.reduceLT, Nat.reduceLeDiff, Nat.reduceEqDiff, Nat.reduceBEq, ↓reduceIte, reduceCtorEq, fA]
  have hbend := betw1 (show betw 0 300 [b.bend] = true by simpa using g)
  refine goC_loop (α := {i : Nat // i ≤ b.cracks.length ∧ ∀ j, j < i → isCrack (nth b.cracks j) b.bottom.length = true}) (fun x => ⟨[(1, .ptr 8 0), (4, .v (.int .i64 x.1))], [(8, .box 25 [.sl 2 (b.bottom.map spR), .sl 2 (b.top.map spR), .v (.int .i64 b.bend), .sl 6 (b.cracks.map crR)])]⟩) (fun x => b.cracks.length - x.1) ⟨0, by omega, by omega⟩ [] ?_ ?_
  · simp (maxSteps := 2000000) only [enA, ↓enP, Nat.reduceAdd, Nat.reduceMul, Nat.reduceSub, Nat.reduceLT, Nat.reduceLeDiff, Nat.reduceEqDiff, Nat.reduceBEq, ↓reduceIte, reduceCtorEq, fA]
    rfl
  intro x B hB
  obtain ⟨i, hi, hx⟩ := x
  by_cases hc : i < b.cracks.length
  · have qc : (i < b.cracks.length) = True := eq_true hc
    have e3 : IntKind.i64.wrap ((i : Int) + 1) = ((i + 1 : Nat) : Int) := wrap_id (by omega) (by omega)
    have e4 : IntKind.i64.wrap ((b.bottom.length : Int) - 1) = b.bottom.length - 1 := wrap_id (by omega) (by omega)
    have badc : isCrack (nth b.cracks i) b.bottom.length = false → newErr b = 2 := fun h => two (.inr (.inl (List.any_eq_true.2 ⟨_, nth_mem hc, by simp [h]⟩)))
    have hE := crkOk2_eq (nth b.cracks i) b.bottom.length
    unfold crkOk2 at hE
    rw [← hE] at badc
    simp (maxSteps := 2000000) only [vcA, ↓vcP, ↓reduceIte, reduceCtorEq, Nat.reduceAdd, Nat.reduceMul, Nat.reduceSub, Nat.reduceLT, Nat.reduceLeDiff, Nat.reduceEqDiff, Nat.reduceBEq, Nat.reduceBNe, Nat.reduceGT, Nat.reduceDiv, Nat.reduceMod, Int.reduceAdd, Int.reduceSub, Int.reduceNeg, Int.reduceLT, Int.reduceLE, Int.reduceEq, Int.reduceToNat, fA, qc, e3, e4, crR]
    refine onF_data (span2_spec (nth b.cracks i).col 0 (b.bottom.length - 1)) ?_ ?_
    · simp (maxSteps := 2000000) only [okA, ↓okP, Nat.reduceAdd, Nat.reduceMul, Nat.reduceSub, Nat.reduceLT, Nat.reduceLeDiff, Nat.reduceEqDiff, Nat.reduceBEq, ↓reduceIte, reduceCtorEq]
    simp (maxSteps := 2000000) only [vcA, ↓vcP, ↓reduceIte, reduceCtorEq, Nat.reduceAdd, Nat.reduceMul, Nat.reduceSub, Nat.reduceLT, Nat.reduceLeDiff, Nat.reduceEqDiff, Nat.reduceBEq, Nat.reduceBNe, Nat.reduceGT, Nat.reduceDiv, Nat.reduceMod, Int.reduceAdd, Int.reduceSub, Int.reduceNeg, Int.reduceLT, Int.reduceLE, Int.reduceEq, Int.reduceToNat, fA, qc, e3, e4, crR]
    refine ⟨fun g1 => ?_, fun g1 => hR _ (fin_of0 ?_)⟩
    rotate_left
    · rw [badc (by simp at g1; simp [g1])]
      simp (maxSteps := 2000000) only [enA, ↓enP, Nat.reduceAdd, Nat.reduceMul, Nat.reduceSub, Nat.reduceLT, Nat.reduceLeDiff, Nat.reduceEqDiff, Nat.reduceBEq, ↓reduceIte, reduceCtorEq, fA]
    have g1 : isSpan (nth b.cracks i).col 0 (b.bottom.length - 1) = true := by simpa using g1
    have hcw : -9223372036854775808 ≤ (nth b.cracks i).col.2 - (nth b.cracks i).col.1 ∧ (nth b.cracks i).col.2 - (nth b.cracks i).col.1 ≤ 9223372036854775807 := by
      unfold isSpan at g1
      simp only [Bool.and_eq_true, decide_eq_true_eq] at g1
      have := betw2 g1.1
      omega
    rw [wrap_id hcw.1 hcw.2]
    refine ⟨fun g2 => ?_, fun g2 => hR _ (fin_of0 ?_)⟩
    rotate_left
    · rw [badc (by rw [decide_eq_true g2]; simp)]
      simp (maxSteps := 2000000) only [enA, ↓enP, Nat.reduceAdd, Nat.reduceMul, Nat.reduceSub, Nat.reduceLT, Nat.reduceLeDiff, Nat.reduceEqDiff, Nat.reduceBEq, ↓reduceIte, reduceCtorEq, fA]
    refine onF_data (span2_spec (nth b.cracks i).frm 0 300) ?_ ?_
    · simp (maxSteps := 2000000) only [okA, ↓okP, Nat.reduceAdd, Nat.reduceMul, Nat.reduceSub, Nat.reduceLT, Nat.reduceLeDiff, Nat.reduceEqDiff, Nat.reduceBEq, ↓reduceIte, reduceCtorEq]
    simp (maxSteps := 2000000) only [vcA, ↓vcP, ↓reduceIte, reduceCtorEq, Nat.reduceAdd, Nat.reduceMul, Nat.reduceSub, Nat.reduceLT, Nat.reduceLeDiff, Nat.reduceEqDiff, Nat.reduceBEq, Nat.reduceBNe, Nat.reduceGT, Nat.reduceDiv, Nat.reduceMod, Int.reduceAdd, Int.reduceSub, Int.reduceNeg, Int.reduceLT, Int.reduceLE, Int.reduceEq, Int.reduceToNat, fA, qc, e3, e4, crR]
    refine ⟨fun g3 => ?_, fun g3 => hR _ (fin_of0 ?_)⟩
    rotate_left
    · rw [badc (by simp at g3; simp [g3])]
      simp (maxSteps := 2000000) only [enA, ↓enP, Nat.reduceAdd, Nat.reduceMul, Nat.reduceSub, Nat.reduceLT, Nat.reduceLeDiff, Nat.reduceEqDiff, Nat.reduceBEq, ↓reduceIte, reduceCtorEq, fA]
    refine onF_data (span2_spec (nth b.cracks i).to 0 300) ?_ ?_
    · simp (maxSteps := 2000000) only [okA, ↓okP, Nat.reduceAdd, Nat.reduceMul, Nat.reduceSub, Nat.reduceLT, Nat.reduceLeDiff, Nat.reduceEqDiff, Nat.reduceBEq, ↓reduceIte, reduceCtorEq]
    simp (maxSteps := 2000000) only [vcA, ↓vcP, ↓reduceIte, reduceCtorEq, Nat.reduceAdd, Nat.reduceMul, Nat.reduceSub, Nat.reduceLT, Nat.reduceLeDiff, Nat.reduceEqDiff, Nat.reduceBEq, Nat.reduceBNe, Nat.reduceGT, Nat.reduceDiv, Nat.reduceMod, Int.reduceAdd, Int.reduceSub, Int.reduceNeg, Int.reduceLT, Int.reduceLE, Int.reduceEq, Int.reduceToNat, fA, qc, e3, e4, crR]
    refine ⟨fun g4 => ?_, fun g4 => hR _ (fin_of0 ?_)⟩
    rotate_left
    · rw [badc (by simp at g4; simp [g4])]
      simp (maxSteps := 2000000) only [enA, ↓enP, Nat.reduceAdd, Nat.reduceMul, Nat.reduceSub, Nat.reduceLT, Nat.reduceLeDiff, Nat.reduceEqDiff, Nat.reduceBEq, ↓reduceIte, reduceCtorEq, fA]
    refine ⟨fun g5 => hR _ (fin_of0 ?_), fun g5 => hB _ ⟨i + 1, by omega, fun j hj => ?_⟩ [] (by simp only; omega) rfl ?_⟩
    · rw [badc (by rw [decide_eq_true g5]; simp)]
      simp (maxSteps := 2000000) only [enA, ↓enP, Nat.reduceAdd, Nat.reduceMul, Nat.reduceSub, Nat.reduceLT, Nat.reduceLeDiff, Nat.reduceEqDiff, Nat.reduceBEq, ↓reduceIte, reduceCtorEq, fA]
    · by_cases e : j = i
      · subst e
        rw [← hE, g1]
        simp at g3 g4
        simp [g3, g4]
        omega
      · exact hx j (by omega)
    · simp (maxSteps := 2000000) only [enA, ↓enP, Nat.reduceAdd, Nat.reduceMul, Nat.reduceSub, Nat.reduceLT, Nat.reduceLeDiff, Nat.reduceEqDiff, Nat.reduceBEq, ↓reduceIte, reduceCtorEq, fA]
  have qc : (i < b.cracks.length) = False := eq_false hc
  simp (maxSteps := 2000000) only [vcA, ↓vcP, ↓reduceIte, reduceCtorEq, Nat.reduceAdd, Nat.reduceMul, Nat.reduceSub, Nat.reduceLT, Nat.reduceLeDiff, Nat.reduceEqDiff, Nat.reduceBEq, Nat.reduceBNe, Nat.reduceGT, Nat.reduceDiv, Nat.reduceMod, Int.reduceAdd, Int.reduceSub, Int.reduceNeg, Int.reduceLT, Int.reduceLE, Int.reduceEq, Int.reduceToNat, fA, qc]
  have hcr : (b.cracks.any fun c => !isCrack c b.bottom.length) = false := by
    rw [List.any_eq_false]
    intro c hcm
    obtain ⟨j, hj, rfl⟩ := List.mem_iff_getElem.1 hcm
    have e : nth b.cracks j = b.cracks[j] := by have := nth_eq hj; rw [List.getElem?_eq_getElem hj] at this; exact (Option.some.inj this).symm
    have := hx j (by omega)
    rw [e] at this
    simp [this]
  have hf : formErr b = 0 := by
    rw [e1, if_neg, if_neg]
    · rw [hedge]; simp
    · rintro (h | h)
      · rw [h] at g; simp at g
      · rw [h] at hcr; cases hcr
  obtain ⟨o1, o2⟩ := edges_okl h4 hedge
  have hE : newErr b = if (bentS b.bend b.bottom).isNone ∨ (bentS b.bend b.top).isNone then 9 else 0 := by unfold newErr; rw [if_neg (by rw [hf]; simp)]
  have z1 := bent_nil (bend := b.bend) o1 (by omega)
  have z2 := bent_nil (bend := b.bend) o2 (by omega)
  refine onF_data (curve2_spec b.bottom b.bend (by omega) o1 hbend) ?_ ?_
  · simp (maxSteps := 2000000) only [okA, ↓okP, Nat.reduceAdd, Nat.reduceMul, Nat.reduceSub, Nat.reduceLT, Nat.reduceLeDiff, Nat.reduceEqDiff, Nat.reduceBEq, ↓reduceIte, reduceCtorEq]
  simp (maxSteps := 2000000) only [vcA, ↓vcP, ↓reduceIte, reduceCtorEq, Nat.reduceAdd, Nat.reduceMul, Nat.reduceSub, Nat.reduceLT, Nat.reduceLeDiff, Nat.reduceEqDiff, Nat.reduceBEq, Nat.reduceBNe, Nat.reduceGT, Nat.reduceDiv, Nat.reduceMod, Int.reduceAdd, Int.reduceSub, Int.reduceNeg, Int.reduceLT, Int.reduceLE, Int.reduceEq, Int.reduceToNat, fA, z1]
  refine ⟨fun g1 => ?_, fun g1 => hR _ (fin_of0 ?_)⟩
  · refine onF_data (curve2_spec b.top b.bend (by omega) o2 hbend) ?_ ?_
    · simp (maxSteps := 2000000) only [okA, ↓okP, Nat.reduceAdd, Nat.reduceMul, Nat.reduceSub, Nat.reduceLT, Nat.reduceLeDiff, Nat.reduceEqDiff, Nat.reduceBEq, ↓reduceIte, reduceCtorEq]
    simp (maxSteps := 2000000) only [vcA, ↓vcP, ↓reduceIte, reduceCtorEq, Nat.reduceAdd, Nat.reduceMul, Nat.reduceSub, Nat.reduceLT, Nat.reduceLeDiff, Nat.reduceEqDiff, Nat.reduceBEq, Nat.reduceBNe, Nat.reduceGT, Nat.reduceDiv, Nat.reduceMod, Int.reduceAdd, Int.reduceSub, Int.reduceNeg, Int.reduceLT, Int.reduceLE, Int.reduceEq, Int.reduceToNat, fA, z2]
    refine ⟨fun g2 => hR _ (fin_of0 ?_), fun g2 => hR _ (fin_of0 ?_)⟩
    · rw [hE, if_pos (.inr g2)]
      simp (maxSteps := 2000000) only [enA, ↓enP, Nat.reduceAdd, Nat.reduceMul, Nat.reduceSub, Nat.reduceLT, Nat.reduceLeDiff, Nat.reduceEqDiff, Nat.reduceBEq, ↓reduceIte, reduceCtorEq, fA]
    · rw [hE, if_neg (by rw [g1, g2]; simp)]
      simp (maxSteps := 2000000) only [enA, ↓enP, Nat.reduceAdd, Nat.reduceMul, Nat.reduceSub, Nat.reduceLT, Nat.reduceLeDiff, Nat.reduceEqDiff, Nat.reduceBEq, ↓reduceIte, reduceCtorEq, fA]
  · rw [hE, if_pos (.inl g1)]
    simp (maxSteps := 2000000) only [enA, ↓enP, Nat.reduceAdd, Nat.reduceMul, Nat.reduceSub, Nat.reduceLT, Nat.reduceLeDiff, Nat.reduceEqDiff, Nat.reduceBEq, ↓reduceIte, reduceCtorEq, fA]
end Go.Proofs.Ytafpicjnccffgaa.Ab.T01
namespace Go.Proofs.Ytafpicjnccffgaa.Ab.T01
open Go Go.RowKit
set_option linter.unusedSimpArgs false
set_option linter.unusedVariables false
set_option maxRecDepth 100000
/-- What is spoilt, as the reference keeps it. -/
def refR (s : Spo) : List DV := [.v (.int .i64 s.col.1), .v (.int .i64 s.col.2), .v (.int .i64 s.ht.1), .v (.int .i64 s.ht.1), .v (.int .i64 s.ht.2), .v (.int .i64 s.ht.2)]
/-- A view, as the reference keeps it. -/
def refV (v : Vw) : AV := .agg [.sl 1 (v.bottom.map iR), .sl 1 (v.top.map iR), .sl 6 (v.spoils.map refR)]
theorem take_map {α β : Type} (f : α → β) (l : List α) (i : Nat) : (l.map f).take i = (l.take i).map f := by rw [List.map_take]
theorem sure2_spec (b : Bl) (hN : newErr b = 0) : SpecF Try.prog 19 [.agg [.sl 2 (b.bottom.map spR), .sl 2 (b.top.map spR), .v (.int .i64 b.bend), .sl 6 (b.cracks.map crR)]] (.agg [.sl 1 ((sureB b).bottom.map iR), .sl 1 ((sureB b).top.map iR), .sl 6 ((sureB b).spoils.map refR)]) [] := by
  refine SpecG.frz (r := .agg [.ob 0 (sureB b).bottom.length, .ob 1 (sureB b).top.length, .ob 2 (sureB b).spoils.length]) (objs := [.row 3 1 ((sureB b).bottom.map iR) false, .row 3 1 ((sureB b).top.map iR) false, .row 100 6 ((sureB b).spoils.map refR) false]) ?_
  obtain ⟨n0, o1, o2, l1, l2, g1, g2, g3, _⟩ := new_ok hN
  have hf : formErr b = 0 := by
    unfold newErr at hN
    split at hN
    · rename_i h1; exact absurd hN h1
    · rename_i h1; simpa using h1
  obtain ⟨f1, f2, f3, f4, f5, f6, f7⟩ := form_ok hf
  obtain ⟨k1, k2⟩ := edges_okl f1 f6
  have c1 : newLow b = (bentS b.bend b.bottom).getD [] := by unfold newLow; rw [if_pos hN]
  have c2 : newTop b = (bentS b.bend b.top).getD [] := by unfold newTop; rw [if_pos hN]
  have s1 := curve2_spec b.bottom b.bend (by omega) k1 f5
  have s2 := curve2_spec b.top b.bend (by omega) k2 f5
  rw [← c1] at s1
  rw [← c2] at s2
  have eB : sureB b = ⟨(newLow b).map (·.2), (newTop b).map (·.1), b.cracks.map spoilOf⟩ := rfl
  rw [eB]
  clear eB
  generalize newLow b = lo at *
  generalize newTop b = tp at *
  refine spec_go (N := 81) (rs := [.cell 2 48]) (eq := eqs) rfl rfl fun_19 rfl (by kernel_rfl) (by kernel_rfl) (by simp) (by simp) (by simp) (by simp) fun R hR => ?_
  simp (maxSteps := 2000000) only [vcA, ↓vcP, ↓reduceIte, reduceCtorEq, Nat.reduceAdd, Nat.reduceMul, Nat.reduceSub, Nat.reduceLT, Nat.reduceLeDiff, Nat.reduceEqDiff, Nat.reduceBEq, Nat.reduceBNe, Nat.reduceGT, Nat.reduceDiv, Nat.reduceMod, Int.reduceAdd, Int.reduceSub, Int.reduceNeg, Int.reduceLT, Int.reduceLE, Int.reduceEq, Int.reduceToNat, fA]
  refine onF_data s1 ?_ ?_
  · simp (maxSteps := 2000000) only [okA, ↓okP, Nat.reduceAdd, Nat.reduceMul, Nat.reduceSub, Nat.reduceLT, Nat.reduceLeDiff, Nat.reduceEqDiff, Nat.reduceBEq, ↓reduceIte, reduceCtorEq]
  simp (maxSteps := 2000000) only [vcA, ↓vcP, ↓reduceIte, reduceCtorEq, Nat.reduceAdd, Nat.reduceMul, Nat.reduceSub, Nat.reduceLT, Nat.reduceLeDiff, Nat.reduceEqDiff, Nat.reduceBEq, Nat.reduceBNe, Nat.reduceGT, Nat.reduceDiv, Nat.reduceMod, Int.reduceAdd, Int.reduceSub, Int.reduceNeg, Int.reduceLT, Int.reduceLE, Int.reduceEq, Int.reduceToNat, fA]
  refine onF_data s2 ?_ ?_
  · simp (maxSteps := 2000000) only [okA, ↓okP, Nat.reduceAdd, Nat.reduceMul, Nat.reduceSub, Nat.reduceLT, Nat.reduceLeDiff, Nat.reduceEqDiff, Nat.reduceBEq, ↓reduceIte, reduceCtorEq]
  simp (maxSteps := 2000000) only [vcA, ↓vcP, ↓reduceIte, reduceCtorEq, Nat.reduceAdd, Nat.reduceMul, Nat.reduceSub, Nat.reduceLT, Nat.reduceLeDiff, Nat.reduceEqDiff, Nat.reduceBEq, Nat.reduceBNe, Nat.reduceGT, Nat.reduceDiv, Nat.reduceMod, Int.reduceAdd, Int.reduceSub, Int.reduceNeg, Int.reduceLT, Int.reduceLE, Int.reduceEq, Int.reduceToNat, fA]
  repeat (first | refine ⟨by kernel_rfl, ?_⟩ | refine ⟨⟨by kernel_rfl, by kernel_rfl⟩, ?_⟩ | refine ⟨⟨by kernel_rfl, by kernel_rfl, by kernel_rfl⟩, ?_⟩ | refine ⟨⟨by kernel_rfl, by kernel_rfl, by kernel_rfl, by kernel_rfl⟩, ?_⟩ | refine ⟨⟨by kernel_rfl, by kernel_rfl, by kernel_rfl, by kernel_rfl, by kernel_rfl⟩, ?_⟩ | refine ⟨⟨by kernel_rfl, by kernel_rfl, by kernel_rfl, by kernel_rfl, by kernel_rfl, by kernel_rfl⟩, ?_⟩ | refine ⟨⟨by kernel_rfl, by kernel_rfl, by kernel_rfl, by kernel_rfl, by kernel_rfl, by kernel_rfl, by kernel_rfl⟩, ?_⟩ | refine ⟨⟨by kernel_rfl, by kernel_rfl, by kernel_rfl, by kernel_rfl, by kernel_rfl, by kernel_rfl, by kernel_rfl, by kernel_rfl⟩, ?_⟩ | refine ⟨⟨by kernel_rfl, by kernel_rfl, by kernel_rfl, by kernel_rfl, by kernel_rfl, by kernel_rfl, by kernel_rfl, by kernel_rfl, by kernel_rfl⟩, ?_⟩ | refine ⟨⟨by kernel_rfl, by kernel_rfl, by kernel_rfl, by kernel_rfl, by kernel_rfl, by kernel_rfl, by kernel_rfl, by kernel_rfl, by kernel_rfl, by kernel_rfl⟩, ?_⟩ | refine ⟨⟨by kernel_rfl, by kernel_rfl, by kernel_rfl, by kernel_rfl, by kernel_rfl, by kernel_rfl, by kernel_rfl, by kernel_rfl, by kernel_rfl, by kernel_rfl, by kernel_rfl⟩, ?_⟩ | refine ⟨⟨by kernel_rfl, by kernel_rfl, by kernel_rfl, by kernel_rfl, by kernel_rfl, by kernel_rfl, by kernel_rfl, by kernel_rfl, by kernel_rfl, by kernel_rfl, by kernel_rfl, by kernel_rfl⟩, ?_⟩ | refine ⟨⟨by kernel_rfl, by kernel_rfl, by kernel_rfl, by kernel_rfl, by kernel_rfl, by kernel_rfl, by kernel_rfl, by kernel_rfl, by kernel_rfl, by kernel_rfl, by kernel_rfl, by kernel_rfl, by kernel_rfl⟩, ?_⟩)
  refine goC_loop (α := {i : Nat // i ≤ lo.length}) (fun x => ⟨[(1, .ptr 8 0), (2, .ptr 16 0), (3, .sl 2 (lo.map spR)), (4, .sl 2 (tp.map spR)), (5, .ptr 112 0), (6, .v (.int .i64 x.1))], [(8, .box 25 [.sl 2 (b.bottom.map spR), .sl 2 (b.top.map spR), .v (.int .i64 b.bend), .sl 6 (b.cracks.map crR)]), (16, .box 48 [.v (.slice none 0 0), .v (.slice none 0 0), .v (.slice none 0 0)]), (112, .box 48 [.ob 152 x.1, .ob 153 x.1, .v (.slice none 0 0)]), (152, .row 3 1 (((lo.take x.1).map (·.2)).map iR) false), (153, .row 3 1 (((tp.take x.1).map (·.1)).map iR) false)]⟩) (fun x => lo.length - x.1) ⟨0, by omega⟩ [none, none] ?_ ?_
  · simp (maxSteps := 2000000) only [enA, ↓enP, Nat.reduceAdd, Nat.reduceMul, Nat.reduceSub, Nat.reduceLT, Nat.reduceLeDiff, Nat.reduceEqDiff, Nat.reduceBEq, ↓reduceIte, reduceCtorEq, fA]
    rfl
  intro x B hB
  obtain ⟨i, hi⟩ := x
  by_cases hc : i < lo.length
  · have qc : (i < lo.length) = True := eq_true hc
    have qt : (i < tp.length) = True := eq_true (by omega)
    have e3 : IntKind.i64.wrap ((i : Int) + 1) = ((i + 1 : Nat) : Int) := wrap_id (by omega) (by omega)
    have t1 : (lo.take i).length = i := by simp; omega
    have t2 : (tp.take i).length = i := by simp; omega
    simp (maxSteps := 2000000) only [vcA, ↓vcP, ↓reduceIte, reduceCtorEq, Nat.reduceAdd, Nat.reduceMul, Nat.reduceSub, Nat.reduceLT, Nat.reduceLeDiff, Nat.reduceEqDiff, Nat.reduceBEq, Nat.reduceBNe, Nat.reduceGT, Nat.reduceDiv, Nat.reduceMod, Int.reduceAdd, Int.reduceSub, Int.reduceNeg, Int.reduceLT, Int.reduceLE, Int.reduceEq, Int.reduceToNat, fA, qc, qt, e3, spR, t1, t2, List.length_map]
    have z1 : (i + 1) * 8 ≤ 140737488355328 ∧ i + 1 ≤ maxLen := ⟨by omega, by simp only [maxLen]; omega⟩
    refine ⟨z1, fun _ => ?_⟩
    repeat (first | refine ⟨by kernel_rfl, ?_⟩ | refine ⟨⟨by kernel_rfl, by kernel_rfl⟩, ?_⟩ | refine ⟨⟨by kernel_rfl, by kernel_rfl, by kernel_rfl⟩, ?_⟩ | refine ⟨⟨by kernel_rfl, by kernel_rfl, by kernel_rfl, by kernel_rfl⟩, ?_⟩ | refine ⟨⟨by kernel_rfl, by kernel_rfl, by kernel_rfl, by kernel_rfl, by kernel_rfl⟩, ?_⟩ | refine ⟨⟨by kernel_rfl, by kernel_rfl, by kernel_rfl, by kernel_rfl, by kernel_rfl, by kernel_rfl⟩, ?_⟩ | refine ⟨⟨by kernel_rfl, by kernel_rfl, by kernel_rfl, by kernel_rfl, by kernel_rfl, by kernel_rfl, by kernel_rfl⟩, ?_⟩ | refine ⟨⟨by kernel_rfl, by kernel_rfl, by kernel_rfl, by kernel_rfl, by kernel_rfl, by kernel_rfl, by kernel_rfl, by kernel_rfl⟩, ?_⟩ | refine ⟨⟨by kernel_rfl, by kernel_rfl, by kernel_rfl, by kernel_rfl, by kernel_rfl, by kernel_rfl, by kernel_rfl, by kernel_rfl, by kernel_rfl⟩, ?_⟩ | refine ⟨⟨by kernel_rfl, by kernel_rfl, by kernel_rfl, by kernel_rfl, by kernel_rfl, by kernel_rfl, by kernel_rfl, by kernel_rfl, by kernel_rfl, by kernel_rfl⟩, ?_⟩ | refine ⟨⟨by kernel_rfl, by kernel_rfl, by kernel_rfl, by kernel_rfl, by kernel_rfl, by kernel_rfl, by kernel_rfl, by kernel_rfl, by kernel_rfl, by kernel_rfl, by kernel_rfl⟩, ?_⟩ | refine ⟨⟨by kernel_rfl, by kernel_rfl, by kernel_rfl, by kernel_rfl, by kernel_rfl, by kernel_rfl, by kernel_rfl, by kernel_rfl, by kernel_rfl, by kernel_rfl, by kernel_rfl, by kernel_rfl⟩, ?_⟩ | refine ⟨⟨by kernel_rfl, by kernel_rfl, by kernel_rfl, by kernel_rfl, by kernel_rfl, by kernel_rfl, by kernel_rfl, by kernel_rfl, by kernel_rfl, by kernel_rfl, by kernel_rfl, by kernel_rfl, by kernel_rfl⟩, ?_⟩)
    refine ⟨z1, fun _ => ?_⟩
    repeat (first | refine ⟨by kernel_rfl, ?_⟩ | refine ⟨⟨by kernel_rfl, by kernel_rfl⟩, ?_⟩ | refine ⟨⟨by kernel_rfl, by kernel_rfl, by kernel_rfl⟩, ?_⟩ | refine ⟨⟨by kernel_rfl, by kernel_rfl, by kernel_rfl, by kernel_rfl⟩, ?_⟩ | refine ⟨⟨by kernel_rfl, by kernel_rfl, by kernel_rfl, by kernel_rfl, by kernel_rfl⟩, ?_⟩ | refine ⟨⟨by kernel_rfl, by kernel_rfl, by kernel_rfl, by kernel_rfl, by kernel_rfl, by kernel_rfl⟩, ?_⟩ | refine ⟨⟨by kernel_rfl, by kernel_rfl, by kernel_rfl, by kernel_rfl, by kernel_rfl, by kernel_rfl, by kernel_rfl⟩, ?_⟩ | refine ⟨⟨by kernel_rfl, by kernel_rfl, by kernel_rfl, by kernel_rfl, by kernel_rfl, by kernel_rfl, by kernel_rfl, by kernel_rfl⟩, ?_⟩ | refine ⟨⟨by kernel_rfl, by kernel_rfl, by kernel_rfl, by kernel_rfl, by kernel_rfl, by kernel_rfl, by kernel_rfl, by kernel_rfl, by kernel_rfl⟩, ?_⟩ | refine ⟨⟨by kernel_rfl, by kernel_rfl, by kernel_rfl, by kernel_rfl, by kernel_rfl, by kernel_rfl, by kernel_rfl, by kernel_rfl, by kernel_rfl, by kernel_rfl⟩, ?_⟩ | refine ⟨⟨by kernel_rfl, by kernel_rfl, by kernel_rfl, by kernel_rfl, by kernel_rfl, by kernel_rfl, by kernel_rfl, by kernel_rfl, by kernel_rfl, by kernel_rfl, by kernel_rfl⟩, ?_⟩ | refine ⟨⟨by kernel_rfl, by kernel_rfl, by kernel_rfl, by kernel_rfl, by kernel_rfl, by kernel_rfl, by kernel_rfl, by kernel_rfl, by kernel_rfl, by kernel_rfl, by kernel_rfl, by kernel_rfl⟩, ?_⟩ | refine ⟨⟨by kernel_rfl, by kernel_rfl, by kernel_rfl, by kernel_rfl, by kernel_rfl, by kernel_rfl, by kernel_rfl, by kernel_rfl, by kernel_rfl, by kernel_rfl, by kernel_rfl, by kernel_rfl, by kernel_rfl⟩, ?_⟩)
    refine hB _ ⟨i + 1, by omega⟩ [some 280, some 352] (by simp only; omega) rfl ?_
    simp (maxSteps := 2000000) only [enA, ↓enP, Nat.reduceAdd, Nat.reduceMul, Nat.reduceSub, Nat.reduceLT, Nat.reduceLeDiff, Nat.reduceEqDiff, Nat.reduceBEq, ↓reduceIte, reduceCtorEq, fA]
    rw [take_nth hc, take_nth (l := tp) (by omega)]
    simp [iR]
  have qc : (i < lo.length) = False := eq_false hc
  have : i = lo.length := by omega
  subst this
  have ee : tp.take lo.length = tp := List.take_of_length_le (by omega)
  simp (maxSteps := 2000000) only [vcA, ↓vcP, ↓reduceIte, reduceCtorEq, Nat.reduceAdd, Nat.reduceMul, Nat.reduceSub, Nat.reduceLT, Nat.reduceLeDiff, Nat.reduceEqDiff, Nat.reduceBEq, Nat.reduceBNe, Nat.reduceGT, Nat.reduceDiv, Nat.reduceMod, Int.reduceAdd, Int.reduceSub, Int.reduceNeg, Int.reduceLT, Int.reduceLE, Int.reduceEq, Int.reduceToNat, fA, qc]
  rw [List.take_length, ee]
  refine goC_loop (α := {j : Nat // j ≤ b.cracks.length}) (fun x => ⟨[(1, .ptr 8 0), (2, .ptr 16 0), (5, .ptr 112 0), (7, .v (.int .i64 x.1))], [(8, .box 25 [.sl 2 (b.bottom.map spR), .sl 2 (b.top.map spR), .v (.int .i64 b.bend), .sl 6 (b.cracks.map crR)]), (16, .box 48 [.v (.slice none 0 0), .v (.slice none 0 0), .v (.slice none 0 0)]), (112, .box 48 [.ob 152 lo.length, .ob 153 lo.length, .ob 224 x.1]), (152, .row 3 1 ((lo.map (·.2)).map iR) false), (153, .row 3 1 ((tp.map (·.1)).map iR) false), (224, .row 100 6 (((b.cracks.take x.1).map spoilOf).map refR) false)]⟩) (fun x => b.cracks.length - x.1) ⟨0, by omega⟩ [none] ?_ ?_
  · simp (maxSteps := 2000000) only [enA, ↓enP, Nat.reduceAdd, Nat.reduceMul, Nat.reduceSub, Nat.reduceLT, Nat.reduceLeDiff, Nat.reduceEqDiff, Nat.reduceBEq, ↓reduceIte, reduceCtorEq, fA]
    rfl
  intro x B hB
  obtain ⟨j, hj⟩ := x
  by_cases hc : j < b.cracks.length
  · have qc : (j < b.cracks.length) = True := eq_true hc
    have e3 : IntKind.i64.wrap ((j : Int) + 1) = ((j + 1 : Nat) : Int) := wrap_id (by omega) (by omega)
    have t1 : (b.cracks.take j).length = j := by simp; omega
    simp (maxSteps := 2000000) only [vcA, ↓vcP, ↓reduceIte, reduceCtorEq, Nat.reduceAdd, Nat.reduceMul, Nat.reduceSub, Nat.reduceLT, Nat.reduceLeDiff, Nat.reduceEqDiff, Nat.reduceBEq, Nat.reduceBNe, Nat.reduceGT, Nat.reduceDiv, Nat.reduceMod, Int.reduceAdd, Int.reduceSub, Int.reduceNeg, Int.reduceLT, Int.reduceLE, Int.reduceEq, Int.reduceToNat, fA, qc, e3, crR, t1, List.length_map]
    have z1 : (j + 1) * 48 ≤ 140737488355328 ∧ j + 1 ≤ maxLen := ⟨by omega, by simp only [maxLen]; omega⟩
    refine ⟨z1, fun _ => hB _ ⟨j + 1, by omega⟩ [some 512] (by simp only; omega) rfl ?_⟩
    simp (maxSteps := 2000000) only [enA, ↓enP, Nat.reduceAdd, Nat.reduceMul, Nat.reduceSub, Nat.reduceLT, Nat.reduceLeDiff, Nat.reduceEqDiff, Nat.reduceBEq, ↓reduceIte, reduceCtorEq, fA]
    rw [take_nth hc]
    simp [refR, spoilOf]
  have qc : (j < b.cracks.length) = False := eq_false hc
  have : j = b.cracks.length := by omega
  subst this
  simp (maxSteps := 2000000) only [vcA, ↓vcP, ↓reduceIte, reduceCtorEq, Nat.reduceAdd, Nat.reduceMul, Nat.reduceSub, Nat.reduceLT, Nat.reduceLeDiff, Nat.reduceEqDiff, Nat.reduceBEq, Nat.reduceBNe, Nat.reduceGT, Nat.reduceDiv, Nat.reduceMod, Int.reduceAdd, Int.reduceSub, Int.reduceNeg, Int.reduceLT, Int.reduceLE, Int.reduceEq, Int.reduceToNat, fA, qc]
  rw [List.take_length]
  refine hR _ (fin_of1 [some 152, some 153, some 224] ?_)
  simp (maxSteps := 2000000) only [enA, ↓enP, Nat.reduceAdd, Nat.reduceMul, Nat.reduceSub, Nat.reduceLT, Nat.reduceLeDiff, Nat.reduceEqDiff, Nat.reduceBEq, ↓reduceIte, reduceCtorEq, fA]
  simp
  omega
/-- Does the column leave a stick sound? -/
def colOk (v : Vw) (wide y : Int) (c : Nat) : Bool := decide (nth v.bottom c ≤ y) && decide (y + wide ≤ nth v.top c) && v.spoils.all fun s => !(betw s.col.1 s.col.2 [(c : Int)] && decide (s.ht.2 > y) && decide (s.ht.1 < y + wide))
def refSound (v : Vw) (long : Nat) (wide : Int) (x : Nat) (y : Int) : Bool := (List.range long).all fun d => colOk v wide y (x + d)
theorem refSound_bad {v : Vw} {long : Nat} {wide : Int} {x : Nat} {y : Int} {d : Nat} (hd : d < long) (h : colOk v wide y (x + d) = false) : refSound v long wide x y = false := by
  unfold refSound
  rw [List.all_eq_false]
  exact ⟨d, List.mem_range.2 hd, by rw [h]; simp⟩
theorem sound2_spec (v : Vw) (s : Sw) (x : Nat) (y : Int) (hx : x + s.long.toNat ≤ v.bottom.length) (hl : 0 ≤ s.long) (hle : v.bottom.length ≤ 1000) (hlen : v.bottom.length = v.top.length) (hsp : v.spoils.length ≤ 1000) (hy : -100000 ≤ y ∧ y ≤ 100000) (hw : -100000 ≤ s.wide ∧ s.wide ≤ 100000) :
    SpecF Try.prog 18 [.agg [.sl 1 (v.bottom.map iR), .sl 1 (v.top.map iR), .sl 6 (v.spoils.map refR)], .agg [.v (.int .i64 s.long), .v (.int .i64 s.wide), .v (.int .i64 s.kerf), .v (.int .i64 s.across)], .agg [.v (.int .i64 x), .v (.int .i64 y)]] (.v (.bool (refSound v s.long.toNat s.wide x y))) [] := by
  have e1 : IntKind.i64.wrap ((x : Int) + s.long) = x + s.long := wrap_id (by omega) (by omega)
  have e2 : IntKind.i64.wrap (y + s.wide) = y + s.wide := wrap_id (by omega) (by omega)
  refine spec_go (N := 81) (rs := [.tmp 6]) (eq := eqs) rfl rfl fun_18 rfl (by kernel_rfl) (by kernel_rfl) (by simp) (by simp) (by simp) (by simp) fun R hR => ?_
  simp (maxSteps := 2000000) only [vcA, ↓vcP, ↓reduceIte, reduceCtorEq, Nat.reduceAdd, Nat.reduceMul, Nat.reduceSub, Nat.reduceLT, Nat.reduceLeDiff, Nat.reduceEqDiff, Nat.reduceBEq, Nat.reduceBNe, Nat.reduceGT, Nat.reduceDiv, Nat.reduceMod, Int.reduceAdd, Int.reduceSub, Int.reduceNeg, Int.reduceLT, Int.reduceLE, Int.reduceEq, Int.reduceToNat, fA]
  refine goC_loop (α := {d : Nat // d ≤ s.long.toNat ∧ ∀ j, j < d → colOk v s.wide y (x + j) = true}) (fun q => ⟨[(3, .ptr 8 0), (4, .ptr 16 0), (5, .ptr 24 0), (7, .v (.int .i64 ((x : Int) + q.1)))], [(8, .box 48 [.sl 1 (v.bottom.map iR), .sl 1 (v.top.map iR), .sl 6 (v.spoils.map refR)]), (16, .box 27 [.v (.int .i64 s.long), .v (.int .i64 s.wide), .v (.int .i64 s.kerf), .v (.int .i64 s.across)]), (24, .box 42 [.v (.int .i64 x), .v (.int .i64 y)])]⟩) (fun q => s.long.toNat - q.1) ⟨0, by omega, by omega⟩ [] ?_ ?_
  · simp (maxSteps := 2000000) only [enA, ↓enP, Nat.reduceAdd, Nat.reduceMul, Nat.reduceSub, Nat.reduceLT, Nat.reduceLeDiff, Nat.reduceEqDiff, Nat.reduceBEq, ↓reduceIte, reduceCtorEq, fA]
    simp
  intro q B hB
  obtain ⟨d, hd, hg⟩ := q
  by_cases hc : d < s.long.toNat
  · have qc : ((x : Int) + d < x + s.long) = True := eq_true (by omega)
    have e3 : IntKind.i64.wrap ((x : Int) + d + 1) = x + ((d + 1 : Nat) : Int) := by rw [wrap_id (by omega) (by omega)]; omega
    have e4 : ((x : Int) + d).toNat = x + d := by omega
    have q1 : ((0 : Int) ≤ (x : Int) + d) = True := eq_true (by omega)
    have q2 : ((x : Int) + d < v.bottom.length) = True := eq_true (by omega)
    have q3 : ((x : Int) + d < v.top.length) = True := eq_true (by omega)
    have q4 : (x + d < v.bottom.length) = True := eq_true (by omega)
    have q5 : (x + d < v.top.length) = True := eq_true (by omega)
    simp (maxSteps := 2000000) only [vcA, ↓vcP, ↓reduceIte, reduceCtorEq, Nat.reduceAdd, Nat.reduceMul, Nat.reduceSub, Nat.reduceLT, Nat.reduceLeDiff, Nat.reduceEqDiff, Nat.reduceBEq, Nat.reduceBNe, Nat.reduceGT, Nat.reduceDiv, Nat.reduceMod, Int.reduceAdd, Int.reduceSub, Int.reduceNeg, Int.reduceLT, Int.reduceLE, Int.reduceEq, Int.reduceToNat, fA, qc, e1, e2, e3, e4, q1, q2, q3, q4, q5, iR]
    have bado : colOk v s.wide y (x + d) = false → refSound v s.long.toNat s.wide x y = false := refSound_bad hc
    refine ⟨fun g1 => ⟨fun g2 => hR _ (fin_of0 ?_), fun g2 => ?_⟩, fun g1 => hR _ (fin_of0 ?_)⟩
    · rw [bado (by unfold colOk; rw [decide_eq_false (show ¬ (y + s.wide ≤ nth v.top (x + d)) by omega)]; simp)]
      simp (maxSteps := 2000000) only [enA, ↓enP, Nat.reduceAdd, Nat.reduceMul, Nat.reduceSub, Nat.reduceLT, Nat.reduceLeDiff, Nat.reduceEqDiff, Nat.reduceBEq, ↓reduceIte, reduceCtorEq, fA]
    rotate_left
    · rw [bado (by unfold colOk; rw [decide_eq_false (show ¬ (nth v.bottom (x + d) ≤ y) by omega)]; simp)]
      simp (maxSteps := 2000000) only [enA, ↓enP, Nat.reduceAdd, Nat.reduceMul, Nat.reduceSub, Nat.reduceLT, Nat.reduceLeDiff, Nat.reduceEqDiff, Nat.reduceBEq, ↓reduceIte, reduceCtorEq, fA]
    refine goC_loop (α := {k : Nat // k ≤ v.spoils.length ∧ ∀ j, j < k → (betw (nth v.spoils j).col.1 (nth v.spoils j).col.2 [((x + d : Nat) : Int)] && decide ((nth v.spoils j).ht.2 > y) && decide ((nth v.spoils j).ht.1 < y + s.wide)) = false}) (fun q => ⟨[(3, .ptr 8 0), (4, .ptr 16 0), (5, .ptr 24 0), (7, .v (.int .i64 ((x : Int) + d))), (8, .v (.int .i64 q.1))], [(8, .box 48 [.sl 1 (v.bottom.map iR), .sl 1 (v.top.map iR), .sl 6 (v.spoils.map refR)]), (16, .box 27 [.v (.int .i64 s.long), .v (.int .i64 s.wide), .v (.int .i64 s.kerf), .v (.int .i64 s.across)]), (24, .box 42 [.v (.int .i64 x), .v (.int .i64 y)])]⟩) (fun q => v.spoils.length - q.1) ⟨0, by omega, by omega⟩ [] ?_ ?_
    · simp (maxSteps := 2000000) only [enA, ↓enP, Nat.reduceAdd, Nat.reduceMul, Nat.reduceSub, Nat.reduceLT, Nat.reduceLeDiff, Nat.reduceEqDiff, Nat.reduceBEq, ↓reduceIte, reduceCtorEq, fA]
      rfl
    intro q B2 hB2
    obtain ⟨k, hk, hs⟩ := q
    by_cases hc2 : k < v.spoils.length
    · have qk : (k < v.spoils.length) = True := eq_true hc2
      have e5 : IntKind.i64.wrap ((k : Int) + 1) = ((k + 1 : Nat) : Int) := wrap_id (by omega) (by omega)
      simp (maxSteps := 2000000) only [vcA, ↓vcP, ↓reduceIte, reduceCtorEq, Nat.reduceAdd, Nat.reduceMul, Nat.reduceSub, Nat.reduceLT, Nat.reduceLeDiff, Nat.reduceEqDiff, Nat.reduceBEq, Nat.reduceBNe, Nat.reduceGT, Nat.reduceDiv, Nat.reduceMod, Int.reduceAdd, Int.reduceSub, Int.reduceNeg, Int.reduceLT, Int.reduceLE, Int.reduceEq, Int.reduceToNat, fA, qk, e2, e5, refR]
      refine onF_data (in_spec ((x : Int) + d) (nth v.spoils k).col.1 (nth v.spoils k).col.2) ?_ ?_
      · simp (maxSteps := 2000000) only [okA, ↓okP, Nat.reduceAdd, Nat.reduceMul, Nat.reduceSub, Nat.reduceLT, Nat.reduceLeDiff, Nat.reduceEqDiff, Nat.reduceBEq, ↓reduceIte, reduceCtorEq]
      simp (maxSteps := 2000000) only [vcA, ↓vcP, ↓reduceIte, reduceCtorEq, Nat.reduceAdd, Nat.reduceMul, Nat.reduceSub, Nat.reduceLT, Nat.reduceLeDiff, Nat.reduceEqDiff, Nat.reduceBEq, Nat.reduceBNe, Nat.reduceGT, Nat.reduceDiv, Nat.reduceMod, Int.reduceAdd, Int.reduceSub, Int.reduceNeg, Int.reduceLT, Int.reduceLE, Int.reduceEq, Int.reduceToNat, fA, qk, e2, e5, refR]
      have ex : ((x : Int) + d) = ((x + d : Nat) : Int) := by omega
      have step : (betw (nth v.spoils k).col.1 (nth v.spoils k).col.2 [((x + d : Nat) : Int)] && decide ((nth v.spoils k).ht.2 > y) && decide ((nth v.spoils k).ht.1 < y + s.wide)) = false → ∀ j, j < k + 1 → (betw (nth v.spoils j).col.1 (nth v.spoils j).col.2 [((x + d : Nat) : Int)] && decide ((nth v.spoils j).ht.2 > y) && decide ((nth v.spoils j).ht.1 < y + s.wide)) = false := fun h j hj => by
        by_cases e : j = k
        · subst e; exact h
        · exact hs j (by omega)
      refine ⟨fun g3 => ⟨fun g4 => ⟨fun g5 => hR _ (fin_of0 ?_), fun g5 => hB2 _ ⟨k + 1, by omega, step ?_⟩ [] (by simp only; omega) rfl ?_⟩, fun g4 => hB2 _ ⟨k + 1, by omega, step ?_⟩ [] (by simp only; omega) rfl ?_⟩, fun g3 => hB2 _ ⟨k + 1, by omega, step ?_⟩ [] (by simp only; omega) rfl ?_⟩
      · rw [ex] at g3
        rw [bado (by
          unfold colOk
          have : (v.spoils.all fun s_1 => !(betw s_1.col.1 s_1.col.2 [((x + d : Nat) : Int)] && decide (s_1.ht.2 > y) && decide (s_1.ht.1 < y + s.wide))) = false := by
            rw [List.all_eq_false]
            exact ⟨_, nth_mem hc2, by rw [g3, decide_eq_true g4, decide_eq_true g5]; simp⟩
          rw [this, Bool.and_false])]
        simp (maxSteps := 2000000) only [enA, ↓enP, Nat.reduceAdd, Nat.reduceMul, Nat.reduceSub, Nat.reduceLT, Nat.reduceLeDiff, Nat.reduceEqDiff, Nat.reduceBEq, ↓reduceIte, reduceCtorEq, fA]
      · rw [decide_eq_false (show ¬ ((nth v.spoils k).ht.1 < y + s.wide) by omega), Bool.and_false]
      · simp (maxSteps := 2000000) only [enA, ↓enP, Nat.reduceAdd, Nat.reduceMul, Nat.reduceSub, Nat.reduceLT, Nat.reduceLeDiff, Nat.reduceEqDiff, Nat.reduceBEq, ↓reduceIte, reduceCtorEq, fA]
      · rw [decide_eq_false (show ¬ ((nth v.spoils k).ht.2 > y) by omega), Bool.and_false, Bool.false_and]
      · simp (maxSteps := 2000000) only [enA, ↓enP, Nat.reduceAdd, Nat.reduceMul, Nat.reduceSub, Nat.reduceLT, Nat.reduceLeDiff, Nat.reduceEqDiff, Nat.reduceBEq, ↓reduceIte, reduceCtorEq, fA]
      · rw [← ex, g3, Bool.false_and, Bool.false_and]
      · simp (maxSteps := 2000000) only [enA, ↓enP, Nat.reduceAdd, Nat.reduceMul, Nat.reduceSub, Nat.reduceLT, Nat.reduceLeDiff, Nat.reduceEqDiff, Nat.reduceBEq, ↓reduceIte, reduceCtorEq, fA]
    have qk : (k < v.spoils.length) = False := eq_false hc2
    simp (maxSteps := 2000000) only [vcA, ↓vcP, ↓reduceIte, reduceCtorEq, Nat.reduceAdd, Nat.reduceMul, Nat.reduceSub, Nat.reduceLT, Nat.reduceLeDiff, Nat.reduceEqDiff, Nat.reduceBEq, Nat.reduceBNe, Nat.reduceGT, Nat.reduceDiv, Nat.reduceMod, Int.reduceAdd, Int.reduceSub, Int.reduceNeg, Int.reduceLT, Int.reduceLE, Int.reduceEq, Int.reduceToNat, fA, qk, e3]
    have hcol : colOk v s.wide y (x + d) = true := by
      unfold colOk
      rw [decide_eq_true g1, decide_eq_true g2]
      simp only [Bool.true_and]
      rw [List.all_eq_true]
      intro sp hsm
      obtain ⟨j, hj, rfl⟩ := List.mem_iff_getElem.1 hsm
      have e : nth v.spoils j = v.spoils[j] := by have := nth_eq hj; rw [List.getElem?_eq_getElem hj] at this; exact (Option.some.inj this).symm
      have := hs j (by omega)
      rw [e] at this
      rw [this]
      rfl
    refine hB _ ⟨d + 1, by omega, fun j hj => ?_⟩ [] (by simp only; omega) rfl ?_
    · by_cases e : j = d
      · subst e; exact hcol
      · exact hg j (by omega)
    · simp (maxSteps := 2000000) only [enA, ↓enP, Nat.reduceAdd, Nat.reduceMul, Nat.reduceSub, Nat.reduceLT, Nat.reduceLeDiff, Nat.reduceEqDiff, Nat.reduceBEq, ↓reduceIte, reduceCtorEq, fA]
  have qc : ((x : Int) + d < x + s.long) = False := eq_false (by omega)
  simp (maxSteps := 2000000) only [vcA, ↓vcP, ↓reduceIte, reduceCtorEq, Nat.reduceAdd, Nat.reduceMul, Nat.reduceSub, Nat.reduceLT, Nat.reduceLeDiff, Nat.reduceEqDiff, Nat.reduceBEq, Nat.reduceBNe, Nat.reduceGT, Nat.reduceDiv, Nat.reduceMod, Int.reduceAdd, Int.reduceSub, Int.reduceNeg, Int.reduceLT, Int.reduceLE, Int.reduceEq, Int.reduceToNat, fA, qc, e1]
  refine hR _ (fin_of0 ?_)
  have : refSound v s.long.toNat s.wide x y = true := List.all_eq_true.2 fun j hj => hg j (by have := List.mem_range.1 hj; omega)
  rw [this]
  simp (maxSteps := 2000000) only [enA, ↓enP, Nat.reduceAdd, Nat.reduceMul, Nat.reduceSub, Nat.reduceLT, Nat.reduceLeDiff, Nat.reduceEqDiff, Nat.reduceBEq, ↓reduceIte, reduceCtorEq, fA]
end Go.Proofs.Ytafpicjnccffgaa.Ab.T01
