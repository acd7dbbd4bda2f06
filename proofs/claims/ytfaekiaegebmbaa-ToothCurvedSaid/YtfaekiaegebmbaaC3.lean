/- Contracts of the blade's functions: a blade with what its edges can be. -/
import Derived.Test.YtfaekiaegebmbaaC2
namespace Go.Proofs.Ytfaekiaegebmbaa.Ab
open Go Go.RowKit
set_option linter.unusedVariables false
set_option linter.unusedSimpArgs false
set_option maxRecDepth 100000
structure Bl where
  bottom : List Sp
  top : List Sp
  bend : Int
  cracks : List Crk
def edgesOk (b : Bl) : Bool := (List.range b.bottom.length).all fun i => isEdges (nth b.bottom i) (nth b.top i)
def formErr (b : Bl) : Int :=
  if b.bottom.length ≠ b.top.length ∨ betw 1 30 [(b.bottom.length : Int)] = false then 4 else if 4 < b.cracks.length then 5
  else if betw 0 300 [b.bend] = false ∨ (b.cracks.any fun c => !isCrack c b.bottom.length) = true then 2 else if edgesOk b = false then 2 else 0
theorem form_spec (b : Bl) (h1 : b.bottom.length < 1000000) (h2 : b.top.length < 1000000) : SpecF Try.prog 81 [.agg [.sl 2 (b.bottom.map spR), .sl 2 (b.top.map spR), .v (.int .i64 b.bend), .sl 6 (b.cracks.map crR)]] (.v (.int .i64 (formErr b))) [] := by
  refine spec_go (N := 50) (rs := [.tmp 2]) (eq := eqs) rfl rfl fun_81 rfl (by kernel_rfl) (by kernel_rfl) (by simp) (by simp) (by simp) (by simp) fun R hR => ?_
  simp (maxSteps := 2000000) only [vcA, ↓vcP, ↓reduceIte, reduceCtorEq, Nat.reduceAdd, Nat.reduceMul, Nat.reduceSub, Nat.reduceLT, Nat.reduceLeDiff, Nat.reduceEqDiff, Nat.reduceBEq, Nat.reduceBNe, Nat.reduceGT, Nat.reduceDiv, Nat.reduceMod, Int.reduceAdd, Int.reduceSub, Int.reduceNeg, Int.reduceLT, Int.reduceLE, Int.reduceEq, Int.reduceToNat, fA]
  refine ⟨fun h3 => ⟨fun _ => hR _ (fin_of0 ?_), fun h' => by rw [h3] at h'; cases h'⟩, fun h3 => ?_⟩
  · simp (maxSteps := 2000000) only [enA, ↓enP, Nat.reduceAdd, Nat.reduceMul, Nat.reduceSub, Nat.reduceLT, Nat.reduceLeDiff, Nat.reduceEqDiff, Nat.reduceBEq, ↓reduceIte, reduceCtorEq, fA]
    have h4 : b.bottom.length ≠ b.top.length := by simp at h3; omega
    unfold formErr
    rw [if_pos (.inl h4)]
  have h4 : b.bottom.length = b.top.length := by simp at h3; omega
  refine onF_call3 (tooth_within 1 30 [(b.bottom.length : Int)] (by simp)) ?_ ?_
  · simp (maxSteps := 2000000) only [okA, ↓okP, Nat.reduceAdd, Nat.reduceMul, Nat.reduceSub, Nat.reduceLT, Nat.reduceLeDiff, Nat.reduceEqDiff, Nat.reduceBEq, ↓reduceIte, reduceCtorEq]
    rfl
  simp (maxSteps := 2000000) only [vcA, ↓vcP, ↓reduceIte, reduceCtorEq, Nat.reduceAdd, Nat.reduceMul, Nat.reduceSub, Nat.reduceLT, Nat.reduceLeDiff, Nat.reduceEqDiff, Nat.reduceBEq, Nat.reduceBNe, Nat.reduceGT, Nat.reduceDiv, Nat.reduceMod, Int.reduceAdd, Int.reduceSub, Int.reduceNeg, Int.reduceLT, Int.reduceLE, Int.reduceEq, Int.reduceToNat, fA]
  refine ⟨fun h5 => hR _ (fin_of0 ?_), fun h5 => ⟨fun h6 => hR _ (fin_of0 ?_), fun h6 => ?_⟩⟩
  · simp (maxSteps := 2000000) only [enA, ↓enP, Nat.reduceAdd, Nat.reduceMul, Nat.reduceSub, Nat.reduceLT, Nat.reduceLeDiff, Nat.reduceEqDiff, Nat.reduceBEq, ↓reduceIte, reduceCtorEq, fA]
    unfold formErr
    rw [if_pos (.inr (by simpa using h5))]
  · simp (maxSteps := 2000000) only [enA, ↓enP, Nat.reduceAdd, Nat.reduceMul, Nat.reduceSub, Nat.reduceLT, Nat.reduceLeDiff, Nat.reduceEqDiff, Nat.reduceBEq, ↓reduceIte, reduceCtorEq, fA]
    unfold formErr
    rw [if_neg (by rintro (h | h); exact h h4; rw [h] at h5; simp at h5), if_pos (by omega)]
  have hb : betw 1 30 [(b.bottom.length : Int)] = true := by simpa using h5
  have hn := betw1 hb
  have e1 : ∀ x, formErr b = x ↔ (if betw 0 300 [b.bend] = false ∨ (b.cracks.any fun c => !isCrack c b.bottom.length) = true then 2 else if edgesOk b = false then 2 else 0) = x := fun x => by
    unfold formErr
    rw [if_neg (by rintro (h | h); exact h h4; rw [h] at hb; simp at hb), if_neg (by omega)]
  refine onF_call3 (tooth_within 0 300 [b.bend] (by simp)) ?_ ?_
  · simp (maxSteps := 2000000) only [okA, ↓okP, Nat.reduceAdd, Nat.reduceMul, Nat.reduceSub, Nat.reduceLT, Nat.reduceLeDiff, Nat.reduceEqDiff, Nat.reduceBEq, ↓reduceIte, reduceCtorEq]
    rfl
  simp (maxSteps := 2000000) only [vcA, ↓vcP, ↓reduceIte, reduceCtorEq, Nat.reduceAdd, Nat.reduceMul, Nat.reduceSub, Nat.reduceLT, Nat.reduceLeDiff, Nat.reduceEqDiff, Nat.reduceBEq, Nat.reduceBNe, Nat.reduceGT, Nat.reduceDiv, Nat.reduceMod, Int.reduceAdd, Int.reduceSub, Int.reduceNeg, Int.reduceLT, Int.reduceLE, Int.reduceEq, Int.reduceToNat, fA]
  refine ⟨fun h7 => ⟨fun _ => hR _ (fin_of0 ?_), fun h' => by rw [h7] at h'; cases h'⟩, fun h7 => ?_⟩
  · simp (maxSteps := 2000000) only [enA, ↓enP, Nat.reduceAdd, Nat.reduceMul, Nat.reduceSub, Nat.reduceLT, Nat.reduceLeDiff, Nat.reduceEqDiff, Nat.reduceBEq, ↓reduceIte, reduceCtorEq, fA]
    exact ((e1 2).2 (if_pos (.inl (by simpa using h7)))).symm
  have h8 : betw 0 300 [b.bend] = true := by simpa using h7
  refine onF_call (crk_contains (.int .i64 (b.bottom.length : Int)) b.cracks (by omega) (p := fun c => !isCrack c b.bottom.length) (fun i hi => isCrackNot_spec _ _ (by omega))) [] [] [48] ?_ ?_
  · simp (maxSteps := 2000000) only [okA, ↓okP, Nat.reduceAdd, Nat.reduceMul, Nat.reduceSub, Nat.reduceLT, Nat.reduceLeDiff, Nat.reduceEqDiff, Nat.reduceBEq, ↓reduceIte, reduceCtorEq]
  simp (maxSteps := 2000000) only [vcA, ↓vcP, ↓reduceIte, reduceCtorEq, Nat.reduceAdd, Nat.reduceMul, Nat.reduceSub, Nat.reduceLT, Nat.reduceLeDiff, Nat.reduceEqDiff, Nat.reduceBEq, Nat.reduceBNe, Nat.reduceGT, Nat.reduceDiv, Nat.reduceMod, Int.reduceAdd, Int.reduceSub, Int.reduceNeg, Int.reduceLT, Int.reduceLE, Int.reduceEq, Int.reduceToNat, fA]
  refine ⟨fun h9 => hR _ (fin_of0 ?_), fun h9 => ?_⟩
  · simp (maxSteps := 2000000) only [enA, ↓enP, Nat.reduceAdd, Nat.reduceMul, Nat.reduceSub, Nat.reduceLT, Nat.reduceLeDiff, Nat.reduceEqDiff, Nat.reduceBEq, ↓reduceIte, reduceCtorEq, fA]
    exact ((e1 2).2 (if_pos (.inr h9))).symm
  have e2 : ∀ x, formErr b = x ↔ (if edgesOk b = false then (2 : Int) else 0) = x := fun x => by
    rw [e1 x, if_neg (by rintro (h | h); rw [h] at h8; cases h8; rw [h] at h9; cases h9)]
  refine goC_loop (α := {i : Nat // i ≤ b.bottom.length ∧ ∀ j, j < i → isEdges (nth b.bottom j) (nth b.top j) = true}) (fun x => ⟨[(1, .ptr 8 0), (33, .v (.int .i64 b.bottom.length)), (34, .v (.int .i64 x.1))], [(8, .box 30 [.sl 2 (b.bottom.map spR), .sl 2 (b.top.map spR), .v (.int .i64 b.bend), .sl 6 (b.cracks.map crR)])]⟩) (fun x => b.bottom.length - x.1) ⟨0, by omega, by omega⟩ [] ?_ ?_
  · simp (maxSteps := 2000000) only [enA, ↓enP, Nat.reduceAdd, Nat.reduceMul, Nat.reduceSub, Nat.reduceLT, Nat.reduceLeDiff, Nat.reduceEqDiff, Nat.reduceBEq, ↓reduceIte, reduceCtorEq, fA]
    rfl
  intro x B hB
  obtain ⟨i, hi, hx⟩ := x
  simp (maxSteps := 2000000) only [vcA, ↓vcP, ↓reduceIte, reduceCtorEq, Nat.reduceAdd, Nat.reduceMul, Nat.reduceSub, Nat.reduceLT, Nat.reduceLeDiff, Nat.reduceEqDiff, Nat.reduceBEq, Nat.reduceBNe, Nat.reduceGT, Nat.reduceDiv, Nat.reduceMod, Int.reduceAdd, Int.reduceSub, Int.reduceNeg, Int.reduceLT, Int.reduceLE, Int.reduceEq, Int.reduceToNat, fA, spR]
  refine ⟨fun h10 => ?_, fun h10 => hR _ (fin_of0 ?_)⟩
  · refine ⟨by omega, fun _ => ⟨by omega, fun _ => ⟨by omega, fun _ => ⟨by omega, fun _ => ?_⟩⟩⟩⟩
    refine onF_data (isEdges_spec (nth b.bottom i) (nth b.top i)) ?_ ?_
    · simp (maxSteps := 2000000) only [okA, ↓okP, Nat.reduceAdd, Nat.reduceMul, Nat.reduceSub, Nat.reduceLT, Nat.reduceLeDiff, Nat.reduceEqDiff, Nat.reduceBEq, ↓reduceIte, reduceCtorEq]
    simp (maxSteps := 2000000) only [vcA, ↓vcP, ↓reduceIte, reduceCtorEq, Nat.reduceAdd, Nat.reduceMul, Nat.reduceSub, Nat.reduceLT, Nat.reduceLeDiff, Nat.reduceEqDiff, Nat.reduceBEq, Nat.reduceBNe, Nat.reduceGT, Nat.reduceDiv, Nat.reduceMod, Int.reduceAdd, Int.reduceSub, Int.reduceNeg, Int.reduceLT, Int.reduceLE, Int.reduceEq, Int.reduceToNat, fA]
    refine ⟨fun h11 => hR _ (fin_of0 ?_), fun h11 => hB _ ⟨i + 1, by omega, ?_⟩ [] ?_ rfl ?_⟩
    · simp (maxSteps := 2000000) only [enA, ↓enP, Nat.reduceAdd, Nat.reduceMul, Nat.reduceSub, Nat.reduceLT, Nat.reduceLeDiff, Nat.reduceEqDiff, Nat.reduceBEq, ↓reduceIte, reduceCtorEq, fA]
      have : edgesOk b = false := by
        unfold edgesOk
        rw [List.all_eq_false]
        exact ⟨i, List.mem_range.2 (by omega), by simpa using h11⟩
      exact ((e2 2).2 (if_pos this)).symm
    · intro j hj
      by_cases e : j = i
      · subst e; simpa using h11
      · exact hx j (by omega)
    · simp only; omega
    · simp (maxSteps := 2000000) only [enA, ↓enP, Nat.reduceAdd, Nat.reduceMul, Nat.reduceSub, Nat.reduceLT, Nat.reduceLeDiff, Nat.reduceEqDiff, Nat.reduceBEq, ↓reduceIte, reduceCtorEq, fA]
      rw [wrap_id (by omega) (by omega)]
      rfl
  · simp (maxSteps := 2000000) only [enA, ↓enP, Nat.reduceAdd, Nat.reduceMul, Nat.reduceSub, Nat.reduceLT, Nat.reduceLeDiff, Nat.reduceEqDiff, Nat.reduceBEq, ↓reduceIte, reduceCtorEq, fA]
    have : edgesOk b = true := by
      unfold edgesOk
      rw [List.all_eq_true]
      intro j hj
      exact hx j (by have := List.mem_range.1 hj; omega)
    exact ((e2 0).2 (if_neg (by rw [this]; simp))).symm
theorem form_ok {b : Bl} (h : formErr b = 0) : b.bottom.length = b.top.length ∧ b.bottom.length ≤ 30 ∧ 1 ≤ b.bottom.length ∧ b.cracks.length ≤ 4 ∧ (0 ≤ b.bend ∧ b.bend ≤ 300) ∧ edgesOk b = true ∧ (b.cracks.any fun c => !isCrack c b.bottom.length) = false := by
  unfold formErr at h
  split at h
  · cases h
  split at h
  · cases h
  split at h
  · cases h
  split at h
  · cases h
  rename_i h1 h2 h3 h4
  simp only [not_or, Bool.not_eq_false] at h1 h3
  have h5 := betw1 h1.2
  refine ⟨by omega, by omega, by omega, by omega, betw1 h3.1, by simpa using h4, by simpa using h3.2⟩
theorem edges_okl {b : Bl} (hl : b.bottom.length = b.top.length) (h : edgesOk b = true) : Okl b.bottom ∧ Okl b.top := by
  have key : ∀ i, i < b.bottom.length → isEdges (nth b.bottom i) (nth b.top i) = true := fun i hi => List.all_eq_true.1 h i (List.mem_range.2 hi)
  have one : ∀ s : Sp, isHeight s = true → 0 ≤ s.1 ∧ s.1 ≤ s.2 ∧ s.2 ≤ 300 := fun s hs => by
    unfold isHeight isSpan at hs
    simp only [Bool.and_eq_true, decide_eq_true_eq] at hs
    have := betw2 hs.1
    omega
  constructor
  · intro s hs
    obtain ⟨i, hi, rfl⟩ := List.mem_iff_getElem.1 hs
    have h1 := key i hi
    have e : nth b.bottom i = b.bottom[i] := by have := nth_eq hi; rw [List.getElem?_eq_getElem hi] at this; exact (Option.some.inj this).symm
    unfold isEdges at h1
    simp only [Bool.and_eq_true] at h1
    rw [← e]
    exact one _ h1.1.1
  · intro s hs
    obtain ⟨i, hi, rfl⟩ := List.mem_iff_getElem.1 hs
    have h1 := key i (by omega)
    have e : nth b.top i = b.top[i] := by have := nth_eq hi; rw [List.getElem?_eq_getElem hi] at this; exact (Option.some.inj this).symm
    unfold isEdges at h1
    simp only [Bool.and_eq_true] at h1
    rw [← e]
    exact one _ h1.1.2
/-- A blade, and what its edges can be; the error. -/
def newErr (b : Bl) : Int := if formErr b ≠ 0 then formErr b else if (bentS b.bend b.bottom).isNone ∨ (bentS b.bend b.top).isNone then 9 else 0
end Go.Proofs.Ytfaekiaegebmbaa.Ab
