/- The reference: a blade's error. -/
import Derived.Test.YtfaekiaegebmbaaR6
namespace Go.Proofs.Ytfaekiaegebmbaa.Ab.T01
open Go Go.RowKit
set_option linter.unusedSimpArgs false
set_option linter.unusedVariables false
set_option maxRecDepth 100000
theorem bent_nil {l : List Sp} {bend : Int} (hok : Okl l) (h0 : l.length ≠ 0) : ((((bentS bend l).getD []).length : Int) == 0) = (bentS bend l).isNone := by
  cases h : bentS bend l with
  | none => rfl
  | some R =>
    have := (bentS_ok hok h).2
    show ((R.length : Int) == 0) = false
    rw [this]
    exact beq_eq_false_iff_ne.2 (by omega)
theorem curve2_spec (l : List Sp) (bend : Int) (hl : l.length < 1000) (hok : Okl l) (hb : 0 ≤ bend ∧ bend ≤ 300) : SpecF Try.prog 60 [.sl 2 (l.map spR), .v (.int .i64 bend)] (.sl 2 (((bentS bend l).getD []).map spR)) [] := by
  rw [← curveR_eq hok hb.1]
  exact refCurve_spec l bend hl hok hb
def crkOk2 (c : Crk) (n : Int) : Bool := isSpan c.col 0 (n - 1) && !decide (c.col.2 - c.col.1 > 4) && isSpan c.frm 0 300 && isSpan c.to 0 300 && !decide (c.frm.2 > c.to.1)
theorem crkOk2_eq (c : Crk) (n : Int) : crkOk2 c n = isCrack c n := by
  unfold crkOk2 isCrack isEdges isHeight
  rw [Bool.eq_iff_iff]
  cases isSpan c.col 0 (n - 1) <;> cases isSpan c.frm 0 300 <;> cases isSpan c.to 0 300 <;> simp <;> omega
theorem check_spec (b : Bl) (h1 : b.bottom.length < 1000000) (h2 : b.top.length < 1000000) : SpecF Try.prog 57 [.agg [.sl 2 (b.bottom.map spR), .sl 2 (b.top.map spR), .v (.int .i64 b.bend), .sl 6 (b.cracks.map crR)]] (.v (.int .i64 (newErr b))) [] := by
  have bad : ∀ e, formErr b = e → e ≠ 0 → newErr b = e := fun e h he => by unfold newErr; rw [if_pos (by rw [h]; exact he), h]
  refine spec_go (N := 133) (rs := [.tmp 2]) (eq := eqs) rfl rfl fun_57 rfl (by kernel_rfl) (by kernel_rfl) (by simp) (by simp) (by simp) (by simp) fun R hR => ?_
  simp (maxSteps := 2000000) only [vcA, ↓vcP, ↓reduceIte, reduceCtorEq, Nat.reduceAdd, Nat.reduceMul, Nat.reduceSub, Nat.reduceLT, Nat.reduceLeDiff, Nat.reduceEqDiff, Nat.reduceBEq, Nat.reduceBNe, Nat.reduceGT, Nat.reduceDiv, Nat.reduceMod, Int.reduceAdd, Int.reduceSub, Int.reduceNeg, Int.reduceLT, Int.reduceLE, Int.reduceEq, Int.reduceToNat, fA]
  refine ⟨fun h3 => ?_, fun h3 => hR _ (fin_of0 ?_)⟩
  rotate_left
  · have h4 : b.bottom.length ≠ b.top.length := by simp at h3; omega
    rw [bad 4 (by unfold formErr; rw [if_pos (.inl h4)]) (by omega)]
    simp (maxSteps := 2000000) only [enA, ↓enP, Nat.reduceAdd, Nat.reduceMul, Nat.reduceSub, Nat.reduceLT, Nat.reduceLeDiff, Nat.reduceEqDiff, Nat.reduceBEq, ↓reduceIte, reduceCtorEq, fA]
  have h4 : b.bottom.length = b.top.length := by simp at h3; omega
  refine onF_data (in_spec b.bottom.length 1 30) ?_ ?_
  · simp (maxSteps := 2000000) only [okA, ↓okP, Nat.reduceAdd, Nat.reduceMul, Nat.reduceSub, Nat.reduceLT, Nat.reduceLeDiff, Nat.reduceEqDiff, Nat.reduceBEq, ↓reduceIte, reduceCtorEq]
  simp (maxSteps := 2000000) only [vcA, ↓vcP, ↓reduceIte, reduceCtorEq, Nat.reduceAdd, Nat.reduceMul, Nat.reduceSub, Nat.reduceLT, Nat.reduceLeDiff, Nat.reduceEqDiff, Nat.reduceBEq, Nat.reduceBNe, Nat.reduceGT, Nat.reduceDiv, Nat.reduceMod, Int.reduceAdd, Int.reduceSub, Int.reduceNeg, Int.reduceLT, Int.reduceLE, Int.reduceEq, Int.reduceToNat, fA]
  refine ⟨fun h5 => hR _ (fin_of0 ?_), fun h5 => ⟨fun h6 => hR _ (fin_of0 ?_), fun h6 => ?_⟩⟩
  · rw [bad 4 (by unfold formErr; rw [if_pos (.inr (by simpa using h5))]) (by omega)]
    simp (maxSteps := 2000000) only [enA, ↓enP, Nat.reduceAdd, Nat.reduceMul, Nat.reduceSub, Nat.reduceLT, Nat.reduceLeDiff, Nat.reduceEqDiff, Nat.reduceBEq, ↓reduceIte, reduceCtorEq, fA]
  · rw [bad 5 (by unfold formErr; rw [if_neg (by rintro (h | h); exact h h4; rw [h] at h5; simp at h5), if_pos (by omega)]) (by omega)]
    simp (maxSteps := 2000000) only [enA, ↓enP, Nat.reduceAdd, Nat.reduceMul, Nat.reduceSub, Nat.reduceLT, Nat.reduceLeDiff, Nat.reduceEqDiff, Nat.reduceBEq, ↓reduceIte, reduceCtorEq, fA]
  have hb : betw 1 30 [(b.bottom.length : Int)] = true := by simpa using h5
  have hn := betw1 hb
  have e1 : ∀ x, formErr b = x ↔ (if betw 0 300 [b.bend] = false ∨ (b.cracks.any fun c => !isCrack c b.bottom.length) = true then 2 else if edgesOk b = false then 2 else 0) = x := fun x => by
    unfold formErr
    rw [if_neg (by rintro (h | h); exact h h4; rw [h] at hb; simp at hb), if_neg (by omega)]
  -- if anything else is wrong the error is 2
  have two : (betw 0 300 [b.bend] = false ∨ (b.cracks.any fun c => !isCrack c b.bottom.length) = true ∨ edgesOk b = false) → newErr b = 2 := fun h => bad 2 (by
    rw [e1]
    rcases h with h | h | h
    · rw [if_pos (.inl h)]
    · rw [if_pos (.inr h)]
    · rw [h, if_pos rfl]
      split <;> rfl) (by omega)
  refine goC_loop (α := {i : Nat // i ≤ b.bottom.length ∧ ∀ j, j < i → isEdges (nth b.bottom j) (nth b.top j) = true}) (fun x => ⟨[(1, .ptr 8 0), (3, .v (.int .i64 x.1))], [(8, .box 30 [.sl 2 (b.bottom.map spR), .sl 2 (b.top.map spR), .v (.int .i64 b.bend), .sl 6 (b.cracks.map crR)])]⟩) (fun x => b.bottom.length - x.1) ⟨0, by omega, by omega⟩ [] ?_ ?_
  · simp (maxSteps := 2000000) only [enA, ↓enP, Nat.reduceAdd, Nat.reduceMul, Nat.reduceSub, Nat.reduceLT, Nat.reduceLeDiff, Nat.reduceEqDiff, Nat.reduceBEq, ↓reduceIte, reduceCtorEq, fA]
    rfl
  intro x B hB
  obtain ⟨i, hi, hx⟩ := x
  by_cases hc : i < b.bottom.length
  · have qc : (i < b.bottom.length) = True := eq_true hc
    have qt : (i < b.top.length) = True := eq_true (by omega)
    have e3 : IntKind.i64.wrap ((i : Int) + 1) = ((i + 1 : Nat) : Int) := wrap_id (by omega) (by omega)
    have bade : isEdges (nth b.bottom i) (nth b.top i) = false → newErr b = 2 := fun h => two (.inr (.inr (by
      unfold edgesOk
      rw [List.all_eq_false]
      exact ⟨i, List.mem_range.2 hc, by simpa using h⟩)))
    have hE : isEdges (nth b.bottom i) (nth b.top i) = (isSpan (nth b.bottom i) 0 300 && isSpan (nth b.top i) 0 300 && decide ((nth b.bottom i).2 ≤ (nth b.top i).1)) := rfl
    simp (maxSteps := 2000000) only [vcA, ↓vcP, ↓reduceIte, reduceCtorEq, Nat.reduceAdd, Nat.reduceMul, Nat.reduceSub, Nat.reduceLT, Nat.reduceLeDiff, Nat.reduceEqDiff, Nat.reduceBEq, Nat.reduceBNe, Nat.reduceGT, Nat.reduceDiv, Nat.reduceMod, Int.reduceAdd, Int.reduceSub, Int.reduceNeg, Int.reduceLT, Int.reduceLE, Int.reduceEq, Int.reduceToNat, fA, qc, qt, e3, spR]
    refine onF_data (span2_spec (nth b.bottom i) 0 300) ?_ ?_
    · simp (maxSteps := 2000000) only [okA, ↓okP, Nat.reduceAdd, Nat.reduceMul, Nat.reduceSub, Nat.reduceLT, Nat.reduceLeDiff, Nat.reduceEqDiff, Nat.reduceBEq, ↓reduceIte, reduceCtorEq]
    simp (maxSteps := 2000000) only [vcA, ↓vcP, ↓reduceIte, reduceCtorEq, Nat.reduceAdd, Nat.reduceMul, Nat.reduceSub, Nat.reduceLT, Nat.reduceLeDiff, Nat.reduceEqDiff, Nat.reduceBEq, Nat.reduceBNe, Nat.reduceGT, Nat.reduceDiv, Nat.reduceMod, Int.reduceAdd, Int.reduceSub, Int.reduceNeg, Int.reduceLT, Int.reduceLE, Int.reduceEq, Int.reduceToNat, fA, qc, qt, e3, spR]
    refine ⟨fun g1 => ?_, fun g1 => hR _ (fin_of0 ?_)⟩
    · refine onF_data (span2_spec (nth b.top i) 0 300) ?_ ?_
      · simp (maxSteps := 2000000) only [okA, ↓okP, Nat.reduceAdd, Nat.reduceMul, Nat.reduceSub, Nat.reduceLT, Nat.reduceLeDiff, Nat.reduceEqDiff, Nat.reduceBEq, ↓reduceIte, reduceCtorEq]
      simp (maxSteps := 2000000) only [vcA, ↓vcP, ↓reduceIte, reduceCtorEq, Nat.reduceAdd, Nat.reduceMul, Nat.reduceSub, Nat.reduceLT, Nat.reduceLeDiff, Nat.reduceEqDiff, Nat.reduceBEq, Nat.reduceBNe, Nat.reduceGT, Nat.reduceDiv, Nat.reduceMod, Int.reduceAdd, Int.reduceSub, Int.reduceNeg, Int.reduceLT, Int.reduceLE, Int.reduceEq, Int.reduceToNat, fA, qc, qt, e3, spR]
      repeat (first | refine ⟨by kernel_rfl, ?_⟩ | refine ⟨⟨by kernel_rfl, by kernel_rfl⟩, ?_⟩ | refine ⟨⟨by kernel_rfl, by kernel_rfl, by kernel_rfl⟩, ?_⟩ | refine ⟨⟨by kernel_rfl, by kernel_rfl, by kernel_rfl, by kernel_rfl⟩, ?_⟩ | refine ⟨⟨by kernel_rfl, by kernel_rfl, by kernel_rfl, by kernel_rfl, by kernel_rfl⟩, ?_⟩ | refine ⟨⟨by kernel_rfl, by kernel_rfl, by kernel_rfl, by kernel_rfl, by kernel_rfl, by kernel_rfl⟩, ?_⟩ | refine ⟨⟨by kernel_rfl, by kernel_rfl, by kernel_rfl, by kernel_rfl, by kernel_rfl, by kernel_rfl, by kernel_rfl⟩, ?_⟩ | refine ⟨⟨by kernel_rfl, by kernel_rfl, by kernel_rfl, by kernel_rfl, by kernel_rfl, by kernel_rfl, by kernel_rfl, by kernel_rfl⟩, ?_⟩ | refine ⟨⟨by kernel_rfl, by kernel_rfl, by kernel_rfl, by kernel_rfl, by kernel_rfl, by kernel_rfl, by kernel_rfl, by kernel_rfl, by kernel_rfl⟩, ?_⟩ | refine ⟨⟨by kernel_rfl, by kernel_rfl, by kernel_rfl, by kernel_rfl, by kernel_rfl, by kernel_rfl, by kernel_rfl, by kernel_rfl, by kernel_rfl, by kernel_rfl⟩, ?_⟩ | refine ⟨⟨by kernel_rfl, by kernel_rfl, by kernel_rfl, by kernel_rfl, by kernel_rfl, by kernel_rfl, by kernel_rfl, by kernel_rfl, by kernel_rfl, by kernel_rfl, by kernel_rfl⟩, ?_⟩ | refine ⟨⟨by kernel_rfl, by kernel_rfl, by kernel_rfl, by kernel_rfl, by kernel_rfl, by kernel_rfl, by kernel_rfl, by kernel_rfl, by kernel_rfl, by kernel_rfl, by kernel_rfl, by kernel_rfl⟩, ?_⟩ | refine ⟨⟨by kernel_rfl, by kernel_rfl, by kernel_rfl, by kernel_rfl, by kernel_rfl, by kernel_rfl, by kernel_rfl, by kernel_rfl, by kernel_rfl, by kernel_rfl, by kernel_rfl, by kernel_rfl, by kernel_rfl⟩, ?_⟩)
      refine ⟨fun g2 => ?_, fun g2 => hR _ (fin_of0 ?_)⟩
      · refine ⟨fun g3 => hR _ (fin_of0 ?_), fun g3 => hB _ ⟨i + 1, by omega, fun j hj => ?_⟩ [] (by simp only; omega) rfl ?_⟩
        · rw [bade (by rw [hE, decide_eq_false (by omega)]; simp)]
          simp (maxSteps := 2000000) only [enA, ↓enP, Nat.reduceAdd, Nat.reduceMul, Nat.reduceSub, Nat.reduceLT, Nat.reduceLeDiff, Nat.reduceEqDiff, Nat.reduceBEq, ↓reduceIte, reduceCtorEq, fA]
        · by_cases e : j = i
          · subst e
            rw [hE]
            simp at g1 g2
            simp [g1, g2]
            omega
          · exact hx j (by omega)
        · simp (maxSteps := 2000000) only [enA, ↓enP, Nat.reduceAdd, Nat.reduceMul, Nat.reduceSub, Nat.reduceLT, Nat.reduceLeDiff, Nat.reduceEqDiff, Nat.reduceBEq, ↓reduceIte, reduceCtorEq, fA]
      · rw [bade (by rw [hE]; simp at g2; simp [g2])]
        simp (maxSteps := 2000000) only [enA, ↓enP, Nat.reduceAdd, Nat.reduceMul, Nat.reduceSub, Nat.reduceLT, Nat.reduceLeDiff, Nat.reduceEqDiff, Nat.reduceBEq, ↓reduceIte, reduceCtorEq, fA]
    · rw [bade (by rw [hE]; simp at g1; simp [g1])]
      simp (maxSteps := 2000000) only [enA, ↓enP, Nat.reduceAdd, Nat.reduceMul, Nat.reduceSub, Nat.reduceLT, Nat.reduceLeDiff, Nat.reduceEqDiff, Nat.reduceBEq, ↓reduceIte, reduceCtorEq, fA]
  have qc : (i < b.bottom.length) = False := eq_false hc
  have hedge : edgesOk b = true := by
    unfold edgesOk
    rw [List.all_eq_true]
    intro j hj
    exact hx j (by have := List.mem_range.1 hj; omega)
  simp (maxSteps := 2000000) only [vcA, ↓vcP, ↓reduceIte, reduceCtorEq, Nat.reduceAdd, Nat.reduceMul, Nat.reduceSub, Nat.reduceLT, Nat.reduceLeDiff, Nat.reduceEqDiff, Nat.reduceBEq, Nat.reduceBNe, Nat.reduceGT, Nat.reduceDiv, Nat.reduceMod, Int.reduceAdd, Int.reduceSub, Int.reduceNeg, Int.reduceLT, Int.reduceLE, Int.reduceEq, Int.reduceToNat, fA, qc]
  refine onF_data (in_spec b.bend 0 300) ?_ ?_
  · simp (maxSteps := 2000000) only [okA, ↓okP, Nat.reduceAdd, Nat.reduceMul, Nat.reduceSub, Nat.reduceLT, Nat.reduceLeDiff, Nat.reduceEqDiff, Nat.reduceBEq, ↓reduceIte, reduceCtorEq]
  simp (maxSteps := 2000000) only [vcA, ↓vcP, ↓reduceIte, reduceCtorEq, Nat.reduceAdd, Nat.reduceMul, Nat.reduceSub, Nat.reduceLT, Nat.reduceLeDiff, Nat.reduceEqDiff, Nat.reduceBEq, Nat.reduceBNe, Nat.reduceGT, Nat.reduceDiv, Nat.reduceMod, Int.reduceAdd, Int.reduceSub, Int.reduceNeg, Int.reduceLT, Int.reduceLE, Int.reduceEq, Int.reduceToNat, fA]
  refine ⟨fun g => hR _ (fin_of0 ?_), fun g => ?_⟩
  · rw [two (.inl (by simpa using g))]
    simp (maxSteps := 2000000) only [enA, ↓enP, Nat.reduceAdd, Nat.reduceMul, Nat.reduceSub, Nat.reduceLT, Nat.reduceLeDiff, Nat.reduceEqDiff, Nat.reduceBEq, ↓reduceIte, reduceCtorEq, fA]
  have hbend := betw1 (show betw 0 300 [b.bend] = true by simpa using g)
  refine goC_loop (α := {i : Nat // i ≤ b.cracks.length ∧ ∀ j, j < i → isCrack (nth b.cracks j) b.bottom.length = true}) (fun x => ⟨[(1, .ptr 8 0), (4, .v (.int .i64 x.1))], [(8, .box 30 [.sl 2 (b.bottom.map spR), .sl 2 (b.top.map spR), .v (.int .i64 b.bend), .sl 6 (b.cracks.map crR)])]⟩) (fun x => b.cracks.length - x.1) ⟨0, by omega, by omega⟩ [] ?_ ?_
  · simp (maxSteps := 2000000) only [enA, ↓enP, Nat.reduceAdd, Nat.reduceMul, Nat.reduceSub, Nat.reduceLT, Nat.reduceLeDiff, Nat.reduceEqDiff, Nat.reduceBEq, ↓reduceIte, reduceCtorEq, fA]
    rfl
  intro x B hB
  obtain ⟨i, hi, hx⟩ := x
  by_cases hc : i < b.cracks.length
  · have qc : (i < b.cracks.length) = True := eq_true hc
    have e3 : IntKind.i64.wrap ((i : Int) + 1) = ((i + 1 : Nat) : Int) := wrap_id (by omega) (by omega)
    have e4 : IntKind.i64.wrap ((b.bottom.length : Int) - 1) = b.bottom.length - 1 := wrap_id (by omega) (by omega)
    have badc : isCrack (nth b.cracks i) b.bottom.length = false → newErr b = 2 := fun h => two (.inr (.inl (List.any_eq_true.2 ⟨_, nth_mem hc, by simp [h]⟩)))
    have hE := crkOk2_eq (nth b.cracks i) b.bottom.length
    unfold crkOk2 at hE
    rw [← hE] at badc
    simp (maxSteps := 2000000) only [vcA, ↓vcP, ↓reduceIte, reduceCtorEq, Nat.reduceAdd, Nat.reduceMul, Nat.reduceSub, Nat.reduceLT, Nat.reduceLeDiff, Nat.reduceEqDiff, Nat.reduceBEq, Nat.reduceBNe, Nat.reduceGT, Nat.reduceDiv, Nat.reduceMod, Int.reduceAdd, Int.reduceSub, Int.reduceNeg, Int.reduceLT, Int.reduceLE, Int.reduceEq, Int.reduceToNat, fA, qc, e3, e4, crR]
    refine onF_data (span2_spec (nth b.cracks i).col 0 (b.bottom.length - 1)) ?_ ?_
    · simp (maxSteps := 2000000) only [okA, ↓okP, Nat.reduceAdd, Nat.reduceMul, Nat.reduceSub, Nat.reduceLT, Nat.reduceLeDiff, Nat.reduceEqDiff, Nat.reduceBEq, ↓reduceIte, reduceCtorEq]
    simp (maxSteps := 2000000) only [vcA, ↓vcP, ↓reduceIte, reduceCtorEq, Nat.reduceAdd, Nat.reduceMul, Nat.reduceSub, Nat.reduceLT, Nat.reduceLeDiff, Nat.reduceEqDiff, Nat.reduceBEq, Nat.reduceBNe, Nat.reduceGT, Nat.reduceDiv, Nat.reduceMod, Int.reduceAdd, Int.reduceSub, Int.reduceNeg, Int.reduceLT, Int.reduceLE, Int.reduceEq, Int.reduceToNat, fA, qc, e3, e4, crR]
    refine ⟨fun g1 => ?_, fun g1 => hR _ (fin_of0 ?_)⟩
    rotate_left
    · rw [badc (by simp at g1; simp [g1])]
      simp (maxSteps := 2000000) only [enA, ↓enP, Nat.reduceAdd, Nat.reduceMul, Nat.reduceSub, Nat.reduceLT, Nat.reduceLeDiff, Nat.reduceEqDiff, Nat.reduceBEq, ↓reduceIte, reduceCtorEq, fA]
    have g1 : isSpan (nth b.cracks i).col 0 (b.bottom.length - 1) = true := by simpa using g1
    have hcw : -9223372036854775808 ≤ (nth b.cracks i).col.2 - (nth b.cracks i).col.1 ∧ (nth b.cracks i).col.2 - (nth b.cracks i).col.1 ≤ 9223372036854775807 := by
      unfold isSpan at g1
      simp only [Bool.and_eq_true, decide_eq_true_eq] at g1
      have := betw2 g1.1
      omega
    rw [wrap_id hcw.1 hcw.2]
    refine ⟨fun g2 => ?_, fun g2 => hR _ (fin_of0 ?_)⟩
    rotate_left
    · rw [badc (by rw [decide_eq_true g2]; simp)]
      simp (maxSteps := 2000000) only [enA, ↓enP, Nat.reduceAdd, Nat.reduceMul, Nat.reduceSub, Nat.reduceLT, Nat.reduceLeDiff, Nat.reduceEqDiff, Nat.reduceBEq, ↓reduceIte, reduceCtorEq, fA]
    refine onF_data (span2_spec (nth b.cracks i).frm 0 300) ?_ ?_
    · simp (maxSteps := 2000000) only [okA, ↓okP, Nat.reduceAdd, Nat.reduceMul, Nat.reduceSub, Nat.reduceLT, Nat.reduceLeDiff, Nat.reduceEqDiff, Nat.reduceBEq, ↓reduceIte, reduceCtorEq]
    simp (maxSteps := 2000000) only [vcA, ↓vcP, ↓reduceIte, reduceCtorEq, Nat.reduceAdd, Nat.reduceMul, Nat.reduceSub, Nat.reduceLT, Nat.reduceLeDiff, Nat.reduceEqDiff, Nat.reduceBEq, Nat.reduceBNe, Nat.reduceGT, Nat.reduceDiv, Nat.reduceMod, Int.reduceAdd, Int.reduceSub, Int.reduceNeg, Int.reduceLT, Int.reduceLE, Int.reduceEq, Int.reduceToNat, fA, qc, e3, e4, crR]
    refine ⟨fun g3 => ?_, fun g3 => hR _ (fin_of0 ?_)⟩
    rotate_left
    · rw [badc (by simp at g3; simp [g3])]
      simp (maxSteps := 2000000) only [enA, ↓enP, Nat.reduceAdd, Nat.reduceMul, Nat.reduceSub, Nat.reduceLT, Nat.reduceLeDiff, Nat.reduceEqDiff, Nat.reduceBEq, ↓reduceIte, reduceCtorEq, fA]
    refine onF_data (span2_spec (nth b.cracks i).to 0 300) ?_ ?_
    · simp (maxSteps := 2000000) only [okA, ↓okP, Nat.reduceAdd, Nat.reduceMul, Nat.reduceSub, Nat.reduceLT, Nat.reduceLeDiff, Nat.reduceEqDiff, Nat.reduceBEq, ↓reduceIte, reduceCtorEq]
    simp (maxSteps := 2000000) only [vcA, ↓vcP, ↓reduceIte, reduceCtorEq, Nat.reduceAdd, Nat.reduceMul, Nat.reduceSub, Nat.reduceLT, Nat.reduceLeDiff, Nat.reduceEqDiff, Nat.reduceBEq, Nat.reduceBNe, Nat.reduceGT, Nat.reduceDiv, Nat.reduceMod, Int.reduceAdd, Int.reduceSub, Int.reduceNeg, Int.reduceLT, Int.reduceLE, Int.reduceEq, Int.reduceToNat, fA, qc, e3, e4, crR]
    refine ⟨fun g4 => ?_, fun g4 => hR _ (fin_of0 ?_)⟩
    rotate_left
    · rw [badc (by simp at g4; simp [g4])]
      simp (maxSteps := 2000000) only [enA, ↓enP, Nat.reduceAdd, Nat.reduceMul, Nat.reduceSub, Nat.reduceLT, Nat.reduceLeDiff, Nat.reduceEqDiff, Nat.reduceBEq, ↓reduceIte, reduceCtorEq, fA]
    refine ⟨fun g5 => hR _ (fin_of0 ?_), fun g5 => hB _ ⟨i + 1, by omega, fun j hj => ?_⟩ [] (by simp only; omega) rfl ?_⟩
    · rw [badc (by rw [decide_eq_true g5]; simp)]
      simp (maxSteps := 2000000) only [enA, ↓enP, Nat.reduceAdd, Nat.reduceMul, Nat.reduceSub, Nat.reduceLT, Nat.reduceLeDiff, Nat.reduceEqDiff, Nat.reduceBEq, ↓reduceIte, reduceCtorEq, fA]
    · by_cases e : j = i
      · subst e
        rw [← hE, g1]
        simp at g3 g4
        simp [g3, g4]
        omega
      · exact hx j (by omega)
    · simp (maxSteps := 2000000) only [enA, ↓enP, Nat.reduceAdd, Nat.reduceMul, Nat.reduceSub, Nat.reduceLT, Nat.reduceLeDiff, Nat.reduceEqDiff, Nat.reduceBEq, ↓reduceIte, reduceCtorEq, fA]
  have qc : (i < b.cracks.length) = False := eq_false hc
  simp (maxSteps := 2000000) only [vcA, ↓vcP, ↓reduceIte, reduceCtorEq, Nat.reduceAdd, Nat.reduceMul, Nat.reduceSub, Nat.reduceLT, Nat.reduceLeDiff, Nat.reduceEqDiff, Nat.reduceBEq, Nat.reduceBNe, Nat.reduceGT, Nat.reduceDiv, Nat.reduceMod, Int.reduceAdd, Int.reduceSub, Int.reduceNeg, Int.reduceLT, Int.reduceLE, Int.reduceEq, Int.reduceToNat, fA, qc]
  have hcr : (b.cracks.any fun c => !isCrack c b.bottom.length) = false := by
    rw [List.any_eq_false]
    intro c hcm
    obtain ⟨j, hj, rfl⟩ := List.mem_iff_getElem.1 hcm
    have e : nth b.cracks j = b.cracks[j] := by have := nth_eq hj; rw [List.getElem?_eq_getElem hj] at this; exact (Option.some.inj this).symm
    have := hx j (by omega)
    rw [e] at this
    simp [this]
  have hf : formErr b = 0 := by
    rw [e1, if_neg, if_neg]
    · rw [hedge]; simp
    · rintro (h | h)
      · rw [h] at g; simp at g
      · rw [h] at hcr; cases hcr
  obtain ⟨o1, o2⟩ := edges_okl h4 hedge
  have hE : newErr b = if (bentS b.bend b.bottom).isNone ∨ (bentS b.bend b.top).isNone then 9 else 0 := by unfold newErr; rw [if_neg (by rw [hf]; simp)]
  have z1 := bent_nil (bend := b.bend) o1 (by omega)
  have z2 := bent_nil (bend := b.bend) o2 (by omega)
  refine onF_data (curve2_spec b.bottom b.bend (by omega) o1 hbend) ?_ ?_
  · simp (maxSteps := 2000000) only [okA, ↓okP, Nat.reduceAdd, Nat.reduceMul, Nat.reduceSub, Nat.reduceLT, Nat.reduceLeDiff, Nat.reduceEqDiff, Nat.reduceBEq, ↓reduceIte, reduceCtorEq]
  simp (maxSteps := 2000000) only [vcA, ↓vcP, ↓reduceIte, reduceCtorEq, Nat.reduceAdd, Nat.reduceMul, Nat.reduceSub, Nat.reduceLT, Nat.reduceLeDiff, Nat.reduceEqDiff, Nat.reduceBEq, Nat.reduceBNe, Nat.reduceGT, Nat.reduceDiv, Nat.reduceMod, Int.reduceAdd, Int.reduceSub, Int.reduceNeg, Int.reduceLT, Int.reduceLE, Int.reduceEq, Int.reduceToNat, fA, z1]
  refine ⟨fun g1 => ?_, fun g1 => hR _ (fin_of0 ?_)⟩
  · refine onF_data (curve2_spec b.top b.bend (by omega) o2 hbend) ?_ ?_
    · simp (maxSteps := 2000000) only [okA, ↓okP, Nat.reduceAdd, Nat.reduceMul, Nat.reduceSub, Nat.reduceLT, Nat.reduceLeDiff, Nat.reduceEqDiff, Nat.reduceBEq, ↓reduceIte, reduceCtorEq]
    simp (maxSteps := 2000000) only [vcA, ↓vcP, ↓reduceIte, reduceCtorEq, Nat.reduceAdd, Nat.reduceMul, Nat.reduceSub, Nat.reduceLT, Nat.reduceLeDiff, Nat.reduceEqDiff, Nat.reduceBEq, Nat.reduceBNe, Nat.reduceGT, Nat.reduceDiv, Nat.reduceMod, Int.reduceAdd, Int.reduceSub, Int.reduceNeg, Int.reduceLT, Int.reduceLE, Int.reduceEq, Int.reduceToNat, fA, z2]
    refine ⟨fun g2 => hR _ (fin_of0 ?_), fun g2 => hR _ (fin_of0 ?_)⟩
    · rw [hE, if_pos (.inr g2)]
      simp (maxSteps := 2000000) only [enA, ↓enP, Nat.reduceAdd, Nat.reduceMul, Nat.reduceSub, Nat.reduceLT, Nat.reduceLeDiff, Nat.reduceEqDiff, Nat.reduceBEq, ↓reduceIte, reduceCtorEq, fA]
    · rw [hE, if_neg (by rw [g1, g2]; simp)]
      simp (maxSteps := 2000000) only [enA, ↓enP, Nat.reduceAdd, Nat.reduceMul, Nat.reduceSub, Nat.reduceLT, Nat.reduceLeDiff, Nat.reduceEqDiff, Nat.reduceBEq, ↓reduceIte, reduceCtorEq, fA]
  · rw [hE, if_pos (.inl g1)]
    simp (maxSteps := 2000000) only [enA, ↓enP, Nat.reduceAdd, Nat.reduceMul, Nat.reduceSub, Nat.reduceLT, Nat.reduceLeDiff, Nat.reduceEqDiff, Nat.reduceBEq, ↓reduceIte, reduceCtorEq, fA]
end Go.Proofs.Ytfaekiaegebmbaa.Ab.T01
