/- Contracts of the wages' functions. Contracts of the wages' functions, continued. Contracts of shares, and of the law's helpers. -/
import Derived.Test.YtlckjjaipbiidaaZU1
namespace Go.Proofs.Ytlckjjaipbiidaa.Ab.T12
open Go Go.RowKit
set_option linter.unusedVariables false
set_option linter.unusedSimpArgs false
set_option maxRecDepth 100000
theorem wage_bad : BadG 53 := by
  intro n lo hi
  refine spec_go (N := 13) (rs := [.tmp 4]) (eq := eqs) rfl rfl fun_53 rfl (by kernel_rfl) (by kernel_rfl) (by simp) (by simp) (by simp) (by simp) fun R hR => ?_
  simp (maxSteps := 2000000) only [vcA, ↓vcP, ↓reduceIte, reduceCtorEq, Nat.reduceAdd, Nat.reduceMul, Nat.reduceSub, Nat.reduceLT, Nat.reduceLeDiff, Nat.reduceEqDiff, Nat.reduceBEq, Nat.reduceBNe, Nat.reduceGT, Nat.reduceDiv, Nat.reduceMod, Int.reduceAdd, Int.reduceSub, Int.reduceNeg, Int.reduceLT, Int.reduceLE, Int.reduceEq, Int.reduceToNat, fA]
  refine ⟨fun h => hR _ (fin_of1 [] ?_), fun h => hR _ (fin_of1 [] ?_)⟩
  · simp (maxSteps := 2000000) only [enA, ↓enP, Nat.reduceAdd, Nat.reduceMul, Nat.reduceSub, Nat.reduceLT, Nat.reduceLeDiff, Nat.reduceEqDiff, Nat.reduceBEq, ↓reduceIte, reduceCtorEq, fA]
    simp [bad]; omega
  · simp (maxSteps := 2000000) only [enA, ↓enP, Nat.reduceAdd, Nat.reduceMul, Nat.reduceSub, Nat.reduceLT, Nat.reduceLeDiff, Nat.reduceEqDiff, Nat.reduceBEq, ↓reduceIte, reduceCtorEq, fA]
    simp [bad]; omega
theorem wage_within (lo hi : Int) (l : List Int) (hl : l.length < 1000000) : SpecF Try.prog 41 [.v (.int .i64 lo), .v (.int .i64 hi), .sl 1 (l.map iR)] (.v (.bool (betw lo hi l))) [] := by
  rw [← betw_idx]
  refine spec_go (N := 11) (rs := [.tmp 6]) (eq := eqs) rfl rfl fun_41 rfl (by kernel_rfl) (by kernel_rfl) (by simp) (by simp) (by simp) (by simp) fun R hR => ?_
  simp (maxSteps := 2000000) only [vcA, ↓vcP, ↓reduceIte, reduceCtorEq, Nat.reduceAdd, Nat.reduceMul, Nat.reduceSub, Nat.reduceLT, Nat.reduceLeDiff, Nat.reduceEqDiff, Nat.reduceBEq, Nat.reduceBNe, Nat.reduceGT, Nat.reduceDiv, Nat.reduceMod, Int.reduceAdd, Int.reduceSub, Int.reduceNeg, Int.reduceLT, Int.reduceLE, Int.reduceEq, Int.reduceToNat, fA]
  refine onF_call (contains_spec wage_bad lo hi l hl) [] [] [8, 16] ?_ ?_
  · simp (maxSteps := 2000000) only [okA, ↓okP, Nat.reduceAdd, Nat.reduceMul, Nat.reduceSub, Nat.reduceLT, Nat.reduceLeDiff, Nat.reduceEqDiff, Nat.reduceBEq, ↓reduceIte, reduceCtorEq]
  · simp (maxSteps := 2000000) only [vcA, ↓vcP, ↓reduceIte, reduceCtorEq, Nat.reduceAdd, Nat.reduceMul, Nat.reduceSub, Nat.reduceLT, Nat.reduceLeDiff, Nat.reduceEqDiff, Nat.reduceBEq, Nat.reduceBNe, Nat.reduceGT, Nat.reduceDiv, Nat.reduceMod, Int.reduceAdd, Int.reduceSub, Int.reduceNeg, Int.reduceLT, Int.reduceLE, Int.reduceEq, Int.reduceToNat, fA]
    refine hR _ (fin_of0 ?_)
    simp (maxSteps := 2000000) only [enA, ↓enP, Nat.reduceAdd, Nat.reduceMul, Nat.reduceSub, Nat.reduceLT, Nat.reduceLeDiff, Nat.reduceEqDiff, Nat.reduceBEq, ↓reduceIte, reduceCtorEq, fA]

/-- A step of a rate: after how many, what it pays. -/
def sR (s : Int × Int) : List DV := [.v (.int .i64 s.1), .v (.int .i64 s.2)]
structure Rate where
  steps : List (Int × Int)
  piece : Int
  fine : Int
def stepsOk : Int → List (Int × Int) → Bool
  | _, [] => true
  | last, s :: l => decide (last < s.1) && (betw 0 1000 [s.1] && (betw 0 1000 [s.2] && stepsOk s.1 l))
def lastOf (l : List (Int × Int)) : Nat → Int
  | 0 => -1
  | i + 1 => (nth l i).1
theorem drop_nth {α : Type} [Inhabited α] {l : List α} {i : Nat} (h : i < l.length) : l.drop i = nth l i :: l.drop (i + 1) := by
  have := nth_eq h
  rw [List.getElem?_eq_getElem h] at this
  rw [List.drop_eq_getElem_cons h, Option.some.inj this]
def openErr (r : Rate) : Int :=
  if 5 < r.steps.length then 5 else if r.steps.length = 0 then 7 else if (nth r.steps 0).1 ≠ 0 then 4 else if !stepsOk (-1) r.steps then 4 else if !betw 0 100 [r.piece, r.fine] then 2 else 0
def openRate (r : Rate) : Rate := if openErr r = 0 then r else ⟨[], 0, 0⟩
theorem openErr_5 {r : Rate} (h : (r.steps.length : Int) > 5) : openErr r = 5 := by unfold openErr; rw [if_pos (by omega)]
theorem open_bad {r : Rate} {e : Int} (h : openErr r = e) (he : e ≠ 0) : openRate r = ⟨[], 0, 0⟩ := by unfold openRate; rw [if_neg (by rw [h]; exact he)]
theorem open_spec (r : Rate) : SpecF Try.prog 56 [.agg [.sl 2 (r.steps.map sR), .v (.int .i64 r.piece), .v (.int .i64 r.fine)]] (.tup [.agg [.sl 2 ((openRate r).steps.map sR), .v (.int .i64 (openRate r).piece), .v (.int .i64 (openRate r).fine)], .v (.int .i64 (openErr r))]) [] := by
  refine spec_go (N := 66) (rs := [.cell 2 136, .tmp 3]) (eq := eqs) rfl rfl fun_56 rfl (by kernel_rfl) (by kernel_rfl) (by simp) (by simp) (by simp) (by simp) fun R hR => ?_
  simp (maxSteps := 2000000) only [vcA, ↓vcP, ↓reduceIte, reduceCtorEq, Nat.reduceAdd, Nat.reduceMul, Nat.reduceSub, Nat.reduceLT, Nat.reduceLeDiff, Nat.reduceEqDiff, Nat.reduceBEq, Nat.reduceBNe, Nat.reduceGT, Nat.reduceDiv, Nat.reduceMod, Int.reduceAdd, Int.reduceSub, Int.reduceNeg, Int.reduceLT, Int.reduceLE, Int.reduceEq, Int.reduceToNat, fA]
  refine ⟨fun h1 => hR _ (fin_of0 ?_), fun h1 => ⟨fun h2 => hR _ (fin_of0 ?_), fun h2 => ?_⟩⟩
  · simp (maxSteps := 2000000) only [enA, ↓enP, Nat.reduceAdd, Nat.reduceMul, Nat.reduceSub, Nat.reduceLT, Nat.reduceLeDiff, Nat.reduceEqDiff, Nat.reduceBEq, ↓reduceIte, reduceCtorEq, fA]
    rw [open_bad (openErr_5 h1) (by omega), openErr_5 h1]
    exact ⟨⟨rfl, rfl, rfl⟩, rfl⟩
  · simp (maxSteps := 2000000) only [enA, ↓enP, Nat.reduceAdd, Nat.reduceMul, Nat.reduceSub, Nat.reduceLT, Nat.reduceLeDiff, Nat.reduceEqDiff, Nat.reduceBEq, ↓reduceIte, reduceCtorEq, fA]
    have h3 : r.steps.length = 0 := by simpa using h2
    have : openErr r = 7 := by unfold openErr; rw [if_neg (by omega), if_pos h3]
    rw [open_bad this (by omega), this]
    exact ⟨⟨rfl, rfl, rfl⟩, rfl⟩
  have h3 : r.steps.length ≠ 0 := by simpa using h2
  refine ⟨by omega, fun _ => ⟨by omega, fun _ => ?_⟩⟩
  simp (maxSteps := 2000000) only [vcA, ↓vcP, ↓reduceIte, reduceCtorEq, Nat.reduceAdd, Nat.reduceMul, Nat.reduceSub, Nat.reduceLT, Nat.reduceLeDiff, Nat.reduceEqDiff, Nat.reduceBEq, Nat.reduceBNe, Nat.reduceGT, Nat.reduceDiv, Nat.reduceMod, Int.reduceAdd, Int.reduceSub, Int.reduceNeg, Int.reduceLT, Int.reduceLE, Int.reduceEq, Int.reduceToNat, fA, sR]
  refine ⟨fun h4 => hR _ (fin_of0 ?_), fun h4 => ?_⟩
  · simp (maxSteps := 2000000) only [enA, ↓enP, Nat.reduceAdd, Nat.reduceMul, Nat.reduceSub, Nat.reduceLT, Nat.reduceLeDiff, Nat.reduceEqDiff, Nat.reduceBEq, ↓reduceIte, reduceCtorEq, fA]
    have : openErr r = 4 := by unfold openErr; rw [if_neg (by omega), if_neg h3, if_pos (by simpa using h4)]
    rw [open_bad this (by omega), this]
    exact ⟨⟨rfl, rfl, rfl⟩, rfl⟩
  have h5 : ¬ (nth r.steps 0).1 ≠ 0 := by simpa using h4
  have h6 : stepsOk (-1) r.steps = false → openErr r = 4 := fun h => by unfold openErr; rw [if_neg (by omega), if_neg h3, if_neg h5, if_pos (by rw [h]; rfl)]
  refine goC_loop (α := {i : Nat // i ≤ r.steps.length ∧ stepsOk (-1) r.steps = stepsOk (lastOf r.steps i) (r.steps.drop i)}) (fun x => ⟨[(1, .ptr 8 0), (2, .ptr 16 0), (3, .v (.int .i64 0)), (4, .v (.int .i64 (lastOf r.steps x.1))), (28, .sl 2 (r.steps.map sR)), (29, .v (.int .i64 r.steps.length)), (30, .v (.int .i64 x.1))], [(8, .box 86 [.sl 2 (r.steps.map sR), .v (.int .i64 r.piece), .v (.int .i64 r.fine)]), (16, .box 136 [.v (.slice none 0 0), .v (.int .i64 0), .v (.int .i64 0)])]⟩) (fun x => r.steps.length - x.1) ⟨0, by omega, rfl⟩ [] ?_ ?_
  · simp (maxSteps := 2000000) only [enA, ↓enP, Nat.reduceAdd, Nat.reduceMul, Nat.reduceSub, Nat.reduceLT, Nat.reduceLeDiff, Nat.reduceEqDiff, Nat.reduceBEq, ↓reduceIte, reduceCtorEq, fA]
    exact ⟨rfl, rfl⟩
  intro x B hB
  obtain ⟨i, hi', hx⟩ := x
  simp (maxSteps := 2000000) only [vcA, ↓vcP, ↓reduceIte, reduceCtorEq, Nat.reduceAdd, Nat.reduceMul, Nat.reduceSub, Nat.reduceLT, Nat.reduceLeDiff, Nat.reduceEqDiff, Nat.reduceBEq, Nat.reduceBNe, Nat.reduceGT, Nat.reduceDiv, Nat.reduceMod, Int.reduceAdd, Int.reduceSub, Int.reduceNeg, Int.reduceLT, Int.reduceLE, Int.reduceEq, Int.reduceToNat, fA, sR]
  refine ⟨fun h7 => ⟨h7, fun _ => ⟨h7, fun _ => ?_⟩⟩, fun h7 => ?_⟩
  · have hd := drop_nth h7
    have hbad : (lastOf r.steps i < (nth r.steps i).1 → betw 0 1000 [(nth r.steps i).1] = true → betw 0 1000 [(nth r.steps i).2] = false) → openErr r = 4 := fun h => h6 (by
      rw [hx, hd, stepsOk]
      by_cases h1 : lastOf r.steps i < (nth r.steps i).1
      · cases h2 : betw 0 1000 [(nth r.steps i).1] with
        | false => simp
        | true => simp [h h1 h2]
      · simp [h1])
    refine ⟨fun h8 => ?_, fun h8 => hR _ (fin_of0 ?_)⟩
    · refine onF_call3 (wage_within 0 1000 [(nth r.steps i).1] (by simp)) ?_ ?_
      · simp (maxSteps := 2000000) only [okA, ↓okP, Nat.reduceAdd, Nat.reduceMul, Nat.reduceSub, Nat.reduceLT, Nat.reduceLeDiff, Nat.reduceEqDiff, Nat.reduceBEq, ↓reduceIte, reduceCtorEq]
        rfl
      simp (maxSteps := 2000000) only [vcA, ↓vcP, ↓reduceIte, reduceCtorEq, Nat.reduceAdd, Nat.reduceMul, Nat.reduceSub, Nat.reduceLT, Nat.reduceLeDiff, Nat.reduceEqDiff, Nat.reduceBEq, Nat.reduceBNe, Nat.reduceGT, Nat.reduceDiv, Nat.reduceMod, Int.reduceAdd, Int.reduceSub, Int.reduceNeg, Int.reduceLT, Int.reduceLE, Int.reduceEq, Int.reduceToNat, fA, sR]
      refine ⟨fun h9 => ?_, fun h9 => hR _ (fin_of0 ?_)⟩
      · refine onF_call3 (wage_within 0 1000 [(nth r.steps i).2] (by simp)) ?_ ?_
        · simp (maxSteps := 2000000) only [okA, ↓okP, Nat.reduceAdd, Nat.reduceMul, Nat.reduceSub, Nat.reduceLT, Nat.reduceLeDiff, Nat.reduceEqDiff, Nat.reduceBEq, ↓reduceIte, reduceCtorEq]
          rfl
        simp (maxSteps := 2000000) only [vcA, ↓vcP, ↓reduceIte, reduceCtorEq, Nat.reduceAdd, Nat.reduceMul, Nat.reduceSub, Nat.reduceLT, Nat.reduceLeDiff, Nat.reduceEqDiff, Nat.reduceBEq, Nat.reduceBNe, Nat.reduceGT, Nat.reduceDiv, Nat.reduceMod, Int.reduceAdd, Int.reduceSub, Int.reduceNeg, Int.reduceLT, Int.reduceLE, Int.reduceEq, Int.reduceToNat, fA, sR]
        refine ⟨fun h10 => hR _ (fin_of0 ?_), fun h10 => hB _ ⟨i + 1, by omega, ?_⟩ [] ?_ rfl ?_⟩
        · simp (maxSteps := 2000000) only [enA, ↓enP, Nat.reduceAdd, Nat.reduceMul, Nat.reduceSub, Nat.reduceLT, Nat.reduceLeDiff, Nat.reduceEqDiff, Nat.reduceBEq, ↓reduceIte, reduceCtorEq, fA]
          have := hbad (fun _ _ => by simpa using h10)
          rw [open_bad this (by omega), this]
          exact ⟨⟨rfl, rfl, rfl⟩, rfl⟩
        · rw [hx, hd, stepsOk]
          simp only [Bool.not_eq_false'] at h9 h10
          have h11 : lastOf r.steps i < (nth r.steps i).1 := by omega
          show _ = stepsOk (nth r.steps i).1 _
          simp [h9, h10, h11]
        · simp only; omega
        · simp (maxSteps := 2000000) only [enA, ↓enP, Nat.reduceAdd, Nat.reduceMul, Nat.reduceSub, Nat.reduceLT, Nat.reduceLeDiff, Nat.reduceEqDiff, Nat.reduceBEq, ↓reduceIte, reduceCtorEq, fA]
          rw [IntKind.wrap_i64]
          simp [lastOf]
          omega
      · simp (maxSteps := 2000000) only [enA, ↓enP, Nat.reduceAdd, Nat.reduceMul, Nat.reduceSub, Nat.reduceLT, Nat.reduceLeDiff, Nat.reduceEqDiff, Nat.reduceBEq, ↓reduceIte, reduceCtorEq, fA]
        have := hbad (fun _ h => by rw [h] at h9; simp at h9)
        rw [open_bad this (by omega), this]
        exact ⟨⟨rfl, rfl, rfl⟩, rfl⟩
    · simp (maxSteps := 2000000) only [enA, ↓enP, Nat.reduceAdd, Nat.reduceMul, Nat.reduceSub, Nat.reduceLT, Nat.reduceLeDiff, Nat.reduceEqDiff, Nat.reduceBEq, ↓reduceIte, reduceCtorEq, fA]
      have := hbad (fun h => by omega)
      rw [open_bad this (by omega), this]
      exact ⟨⟨rfl, rfl, rfl⟩, rfl⟩
  · have hall : stepsOk (-1) r.steps = true := by
      rw [hx, List.drop_eq_nil_of_le (by omega)]
      rfl
    have he : openErr r = if !betw 0 100 [r.piece, r.fine] then 2 else 0 := by
      unfold openErr; rw [if_neg (by omega), if_neg h3, if_neg h5, hall]
      rfl
    refine onF_call3 (wage_within 0 100 [r.piece, r.fine] (by simp)) ?_ ?_
    · simp (maxSteps := 2000000) only [okA, ↓okP, Nat.reduceAdd, Nat.reduceMul, Nat.reduceSub, Nat.reduceLT, Nat.reduceLeDiff, Nat.reduceEqDiff, Nat.reduceBEq, ↓reduceIte, reduceCtorEq]
      rfl
    simp (maxSteps := 2000000) only [vcA, ↓vcP, ↓reduceIte, reduceCtorEq, Nat.reduceAdd, Nat.reduceMul, Nat.reduceSub, Nat.reduceLT, Nat.reduceLeDiff, Nat.reduceEqDiff, Nat.reduceBEq, Nat.reduceBNe, Nat.reduceGT, Nat.reduceDiv, Nat.reduceMod, Int.reduceAdd, Int.reduceSub, Int.reduceNeg, Int.reduceLT, Int.reduceLE, Int.reduceEq, Int.reduceToNat, fA, sR]
    refine ⟨fun h8 => hR _ (fin_of0 ?_), fun h8 => hR _ (fin_of0 ?_)⟩
    · simp (maxSteps := 2000000) only [enA, ↓enP, Nat.reduceAdd, Nat.reduceMul, Nat.reduceSub, Nat.reduceLT, Nat.reduceLeDiff, Nat.reduceEqDiff, Nat.reduceBEq, ↓reduceIte, reduceCtorEq, fA]
      have : openErr r = 2 := by rw [he, if_pos h8]
      rw [open_bad this (by omega), this]
      exact ⟨⟨rfl, rfl, rfl⟩, rfl⟩
    · simp (maxSteps := 2000000) only [enA, ↓enP, Nat.reduceAdd, Nat.reduceMul, Nat.reduceSub, Nat.reduceLT, Nat.reduceLeDiff, Nat.reduceEqDiff, Nat.reduceBEq, ↓reduceIte, reduceCtorEq, fA]
      have h0 : openErr r = 0 := by rw [he, if_neg (by rw [h8]; decide)]
      have : openRate r = r := by unfold openRate; rw [if_pos h0]
      rw [this, h0]
      exact ⟨⟨rfl, rfl, rfl⟩, rfl⟩

/-- The steps with their ends. -/
def untilOf (l : List (Int × Int)) (i : Nat) : Int := if i + 1 < l.length then (nth l (i + 1)).1 else 1000
def stepArgs (l : List (Int × Int)) (i : Nat) : List AV := [.agg [.v (.int .i64 (nth l i).1), .v (.int .i64 (nth l i).2)], .v (.int .i64 (untilOf l i))]
theorem stretches_spec (r : Rate) (hl : r.steps.length < 1000000) (Φ : Nat → Value → (Nat → Prop) → (Nat → Prop) → World → Prop) (h : ∀ i, i < r.steps.length → CbG Try.prog (stepArgs r.steps i) [.opq (Φ i)] (.v (.bool true)) [.opq (Φ (i + 1))]) :
    SpecG Try.prog 60 ([.agg [.sl 2 (r.steps.map sR), .v (.int .i64 r.piece), .v (.int .i64 r.fine)]] ++ [.yl 0]) [.opq (Φ 0)] (.tup []) [.opq (Φ r.steps.length)] := by
  refine spec_go (N := 37) (rs := []) (eq := eqs) rfl rfl fun_60 rfl (by kernel_rfl) (by kernel_rfl) (by simp) (by simp) (by simp) (by simp) fun R hR => ?_
  simp (maxSteps := 2000000) only [vcA, ↓vcP, ↓reduceIte, reduceCtorEq, Nat.reduceAdd, Nat.reduceMul, Nat.reduceSub, Nat.reduceLT, Nat.reduceLeDiff, Nat.reduceEqDiff, Nat.reduceBEq, Nat.reduceBNe, Nat.reduceGT, Nat.reduceDiv, Nat.reduceMod, Int.reduceAdd, Int.reduceSub, Int.reduceNeg, Int.reduceLT, Int.reduceLE, Int.reduceEq, Int.reduceToNat, fA]
  refine goC_loop (α := {i : Nat // i ≤ r.steps.length}) (fun x => ⟨[(1, .yl 0), (2, .ptr 8 0), (9, .sl 2 (r.steps.map sR)), (10, .v (.int .i64 r.steps.length)), (11, .v (.int .i64 x.1))], [(0, .opq (Φ x.1)), (8, .box 136 [.sl 2 (r.steps.map sR), .v (.int .i64 r.piece), .v (.int .i64 r.fine)])]⟩) (fun x => r.steps.length - x.1) ⟨0, by omega⟩ [] ?_ ?_
  · simp (maxSteps := 2000000) only [enA, ↓enP, Nat.reduceAdd, Nat.reduceMul, Nat.reduceSub, Nat.reduceLT, Nat.reduceLeDiff, Nat.reduceEqDiff, Nat.reduceBEq, ↓reduceIte, reduceCtorEq, fA]
    rfl
  intro x B hB
  obtain ⟨i, hi'⟩ := x
  have hw : i < r.steps.length → IntKind.i64.wrap ((i : Int) + 1) = ((i + 1 : Nat) : Int) := fun h => by rw [wrap_id (by omega) (by omega)]; rfl
  simp (maxSteps := 2000000) only [vcA, ↓vcP, ↓reduceIte, reduceCtorEq, Nat.reduceAdd, Nat.reduceMul, Nat.reduceSub, Nat.reduceLT, Nat.reduceLeDiff, Nat.reduceEqDiff, Nat.reduceBEq, Nat.reduceBNe, Nat.reduceGT, Nat.reduceDiv, Nat.reduceMod, Int.reduceAdd, Int.reduceSub, Int.reduceNeg, Int.reduceLT, Int.reduceLE, Int.reduceEq, Int.reduceToNat, fA, sR]
  refine ⟨fun h1 => ⟨h1, fun _ => ⟨h1, fun _ => ?_⟩⟩, fun h1 => hR _ (fin_of1 [] ?_)⟩
  · have h2 := h i h1
    unfold stepArgs at h2
    rw [hw h1]
    refine ⟨fun h3 => ?_, fun h3 => ?_⟩
    · have h4 : i + 1 < r.steps.length := by omega
      have hu : untilOf r.steps i = (nth r.steps (i + 1)).1 := by unfold untilOf; rw [if_pos h4]
      rw [hu] at h2
      refine ⟨by omega, fun _ => ⟨by simpa using h4, fun _ => ?_⟩⟩
      refine onF_cb h2 [] [] [] ?_ ?_
      · simp (maxSteps := 2000000) only [okA, ↓okP, Nat.reduceAdd, Nat.reduceMul, Nat.reduceSub, Nat.reduceLT, Nat.reduceLeDiff, Nat.reduceEqDiff, Nat.reduceBEq, ↓reduceIte, reduceCtorEq]
        simp
      simp (maxSteps := 2000000) only [vcA, ↓vcP, ↓reduceIte, reduceCtorEq, Nat.reduceAdd, Nat.reduceMul, Nat.reduceSub, Nat.reduceLT, Nat.reduceLeDiff, Nat.reduceEqDiff, Nat.reduceBEq, Nat.reduceBNe, Nat.reduceGT, Nat.reduceDiv, Nat.reduceMod, Int.reduceAdd, Int.reduceSub, Int.reduceNeg, Int.reduceLT, Int.reduceLE, Int.reduceEq, Int.reduceToNat, fA, sR]
      refine hB _ ⟨i + 1, by omega⟩ [] ?_ rfl ?_
      · simp only; omega
      · simp (maxSteps := 2000000) only [enA, ↓enP, Nat.reduceAdd, Nat.reduceMul, Nat.reduceSub, Nat.reduceLT, Nat.reduceLeDiff, Nat.reduceEqDiff, Nat.reduceBEq, ↓reduceIte, reduceCtorEq, fA]
        exact hw h1
    · have hu : untilOf r.steps i = 1000 := by unfold untilOf; rw [if_neg (by omega)]
      rw [hu] at h2
      refine onF_cb h2 [] [] [] ?_ ?_
      · simp (maxSteps := 2000000) only [okA, ↓okP, Nat.reduceAdd, Nat.reduceMul, Nat.reduceSub, Nat.reduceLT, Nat.reduceLeDiff, Nat.reduceEqDiff, Nat.reduceBEq, ↓reduceIte, reduceCtorEq]
      simp (maxSteps := 2000000) only [vcA, ↓vcP, ↓reduceIte, reduceCtorEq, Nat.reduceAdd, Nat.reduceMul, Nat.reduceSub, Nat.reduceLT, Nat.reduceLeDiff, Nat.reduceEqDiff, Nat.reduceBEq, Nat.reduceBNe, Nat.reduceGT, Nat.reduceDiv, Nat.reduceMod, Int.reduceAdd, Int.reduceSub, Int.reduceNeg, Int.reduceLT, Int.reduceLE, Int.reduceEq, Int.reduceToNat, fA, sR]
      refine hB _ ⟨i + 1, by omega⟩ [] ?_ rfl ?_
      · simp only; omega
      · simp (maxSteps := 2000000) only [enA, ↓enP, Nat.reduceAdd, Nat.reduceMul, Nat.reduceSub, Nat.reduceLT, Nat.reduceLeDiff, Nat.reduceEqDiff, Nat.reduceBEq, ↓reduceIte, reduceCtorEq, fA]
        exact hw h1
  · simp (maxSteps := 2000000) only [enA, ↓enP, Nat.reduceAdd, Nat.reduceMul, Nat.reduceSub, Nat.reduceLT, Nat.reduceLeDiff, Nat.reduceEqDiff, Nat.reduceBEq, ↓reduceIte, reduceCtorEq, fA]
    have : i = r.steps.length := by omega
    rw [this]
end Go.Proofs.Ytlckjjaipbiidaa.Ab.T12
namespace Go.Proofs.Ytlckjjaipbiidaa.Ab.T12
open Go Go.RowKit
set_option linter.unusedVariables false
set_option linter.unusedSimpArgs false
set_option maxRecDepth 100000
/-- What dozens pay, by the first steps. -/
def dz (l : List (Int × Int)) (n : Int) : Nat → Int
  | 0 => 0
  | i + 1 => dz l n i + (nth l i).2 * max 0 (min n (untilOf l i) - (nth l i).1)
theorem stepsOk_all : ∀ {l : List (Int × Int)} {last : Int}, stepsOk last l = true → ∀ s ∈ l, 0 ≤ s.1 ∧ s.1 ≤ 1000 ∧ 0 ≤ s.2 ∧ s.2 ≤ 1000
  | [], _, _, s, hs => by cases hs
  | t :: l, last, h, s, hs => by
    simp only [stepsOk, Bool.and_eq_true] at h
    rcases List.mem_cons.1 hs with rfl | hs
    · have h1 := betw1 h.2.1
      have h2 := betw1 h.2.2.1
      omega
    · exact stepsOk_all h.2.2.2 s hs
theorem untilOf_bound {l : List (Int × Int)} {last : Int} (h : stepsOk last l = true) (i : Nat) : 0 ≤ untilOf l i ∧ untilOf l i ≤ 1000 := by
  unfold untilOf
  split
  · rename_i hi
    have := stepsOk_all h _ (nth_mem hi)
    omega
  · omega
theorem dz_step {l : List (Int × Int)} {last n : Int} (h : stepsOk last l = true) (hn : 0 ≤ n ∧ n ≤ 1000) {i : Nat} (hi : i < l.length) : 0 ≤ (nth l i).2 * max 0 (min n (untilOf l i) - (nth l i).1) ∧ (nth l i).2 * max 0 (min n (untilOf l i) - (nth l i).1) ≤ 1000000 := by
  have h1 := stepsOk_all h _ (nth_mem hi)
  have h2 := untilOf_bound h i
  have h3 : 0 ≤ max 0 (min n (untilOf l i) - (nth l i).1) := by omega
  have h4 : max 0 (min n (untilOf l i) - (nth l i).1) ≤ 1000 := by omega
  exact ⟨Int.mul_nonneg h1.2.2.1 h3, Int.le_trans (Int.mul_le_mul h1.2.2.2 h4 h3 (by omega)) (by omega)⟩
theorem dz_bound {l : List (Int × Int)} {last n : Int} (h : stepsOk last l = true) (hn : 0 ≤ n ∧ n ≤ 1000) : ∀ i : Nat, i ≤ l.length → 0 ≤ dz l n i ∧ dz l n i ≤ 1000000 * i
  | 0, _ => by simp [dz]
  | i + 1, hi => by
    have h1 := dz_bound h hn i (by omega)
    have h2 := dz_step h hn (i := i) (by omega)
    simp only [dz]
    omega
theorem dozens_spec (r : Rate) (n : Int) (hok : stepsOk (-1) r.steps = true) (hl : r.steps.length ≤ 5) (hn : 0 ≤ n ∧ n ≤ 1000) : SpecF Try.prog 59 [.agg [.sl 2 (r.steps.map sR), .v (.int .i64 r.piece), .v (.int .i64 r.fine)], .v (.int .i64 n)] (.v (.int .i64 (dz r.steps n r.steps.length))) [] := by
  refine spec_go (N := 24) (rs := [.cell 4 3]) (eq := eqs) rfl rfl fun_59 rfl (by kernel_rfl) (by kernel_rfl) (by simp) (by simp) (by simp) (by simp) fun R hR => ?_
  simp (maxSteps := 2000000) only [vcA, ↓vcP, ↓reduceIte, reduceCtorEq, Nat.reduceAdd, Nat.reduceMul, Nat.reduceSub, Nat.reduceLT, Nat.reduceLeDiff, Nat.reduceEqDiff, Nat.reduceBEq, Nat.reduceBNe, Nat.reduceGT, Nat.reduceDiv, Nat.reduceMod, Int.reduceAdd, Int.reduceSub, Int.reduceNeg, Int.reduceLT, Int.reduceLE, Int.reduceEq, Int.reduceToNat, fA]
  refine goC_rangeN r.steps.length (stepArgs r.steps) (stepArgs r.steps) [(2, .ptr 8 0), (3, .ptr 16 0), (4, .ptr 24 0)] (fun i => [(8, .box 136 [.sl 2 (r.steps.map sR), .v (.int .i64 r.piece), .v (.int .i64 r.fine)]), (16, .box 3 [.v (.int .i64 n)]), (24, .box 3 [.v (.int .i64 (dz r.steps n i))])]) (.tup []) [] rfl (bs' := [.agg [.sl 2 (r.steps.map sR), .v (.int .i64 r.piece), .v (.int .i64 r.fine)]]) ?_ ?_ ?_ (stretches_spec r (by omega)) ?_ ?_ ?_
  · simp (maxSteps := 2000000) only [okA, ↓okP, Nat.reduceAdd, Nat.reduceMul, Nat.reduceSub, Nat.reduceLT, Nat.reduceLeDiff, Nat.reduceEqDiff, Nat.reduceBEq, ↓reduceIte, reduceCtorEq]
  · simp (maxSteps := 2000000) only [enA, ↓enP, Nat.reduceAdd, Nat.reduceMul, Nat.reduceSub, Nat.reduceLT, Nat.reduceLeDiff, Nat.reduceEqDiff, Nat.reduceBEq, ↓reduceIte, reduceCtorEq, fA]
    rfl
  · intro σ
    simp [tmsSelf, eqr, eqr2, eqr1, eqr0, rn]
  · intro i hi
    refine ⟨rfl, ?_⟩
    unfold stepArgs
    simp (maxSteps := 2000000) only [okA, ↓okP, Nat.reduceAdd, Nat.reduceMul, Nat.reduceSub, Nat.reduceLT, Nat.reduceLeDiff, Nat.reduceEqDiff, Nat.reduceBEq, ↓reduceIte, reduceCtorEq]
  · intro i hi B hB
    unfold stepArgs
    simp (maxSteps := 2000000) only [vcA, ↓vcP, ↓reduceIte, reduceCtorEq, Nat.reduceAdd, Nat.reduceMul, Nat.reduceSub, Nat.reduceLT, Nat.reduceLeDiff, Nat.reduceEqDiff, Nat.reduceBEq, Nat.reduceBNe, Nat.reduceGT, Nat.reduceDiv, Nat.reduceMod, Int.reduceAdd, Int.reduceSub, Int.reduceNeg, Int.reduceLT, Int.reduceLE, Int.reduceEq, Int.reduceToNat, fA, sR]
    refine hB _ [] ?_
    simp (maxSteps := 2000000) only [enA, ↓enP, Nat.reduceAdd, Nat.reduceMul, Nat.reduceSub, Nat.reduceLT, Nat.reduceLeDiff, Nat.reduceEqDiff, Nat.reduceBEq, ↓reduceIte, reduceCtorEq, fA]
    have h1 := stepsOk_all hok _ (nth_mem hi)
    have h2 := untilOf_bound hok i
    have h3 := dz_step hok hn hi
    have h4 := dz_bound hok hn i (by omega)
    simp only [dz]
    rw [wrap_id (x := min n (untilOf r.steps i) - (nth r.steps i).1) (by omega) (by omega), wrap_id (x := (nth r.steps i).2 * _) (by omega) (by omega), wrap_id (by omega) (by omega)]
  · simp (maxSteps := 2000000) only [vcA, ↓vcP, ↓reduceIte, reduceCtorEq, Nat.reduceAdd, Nat.reduceMul, Nat.reduceSub, Nat.reduceLT, Nat.reduceLeDiff, Nat.reduceEqDiff, Nat.reduceBEq, Nat.reduceBNe, Nat.reduceGT, Nat.reduceDiv, Nat.reduceMod, Int.reduceAdd, Int.reduceSub, Int.reduceNeg, Int.reduceLT, Int.reduceLE, Int.reduceEq, Int.reduceToNat, fA]
    refine hR _ (fin_of0 ?_)
    simp (maxSteps := 2000000) only [enA, ↓enP, Nat.reduceAdd, Nat.reduceMul, Nat.reduceSub, Nat.reduceLT, Nat.reduceLeDiff, Nat.reduceEqDiff, Nat.reduceBEq, ↓reduceIte, reduceCtorEq, fA]
/-- A wage. -/
def wageOf (r : Rate) (d p b : Int) : Int := max 0 (dz r.steps d r.steps.length + p * r.piece - b * r.fine)
structure Rate.Ok (r : Rate) : Prop where
  steps : stepsOk (-1) r.steps = true
  len : r.steps.length ≤ 5
  piece : 0 ≤ r.piece ∧ r.piece ≤ 100
  fine : 0 ≤ r.fine ∧ r.fine ≤ 100
theorem openErr_ok {r : Rate} (h : openErr r = 0) : r.Ok ∧ openRate r = r := by
  refine ⟨?_, by unfold openRate; rw [if_pos h]⟩
  unfold openErr at h
  split at h
  · cases h
  split at h
  · cases h
  split at h
  · cases h
  split at h
  · cases h
  split at h
  · cases h
  rename_i h1 h2 h3 h4 h5
  have h6 : betw 0 100 [r.piece, r.fine] = true := by simpa using h5
  have h7 : (0 ≤ r.piece ∧ r.piece ≤ 100) ∧ 0 ≤ r.fine ∧ r.fine ≤ 100 := by simpa [betw] using h6
  exact ⟨by simpa using h4, by omega, h7.1, h7.2⟩
theorem mul_bound {a b m k : Int} (ha : 0 ≤ a ∧ a ≤ m) (hb : 0 ≤ b ∧ b ≤ k) : 0 ≤ a * b ∧ a * b ≤ m * k :=
  ⟨Int.mul_nonneg ha.1 hb.1, Int.mul_le_mul ha.2 hb.2 hb.1 (by omega)⟩
theorem wage_spec (r : Rate) (d p b : Int) (hok : r.Ok) (hd : 0 ≤ d ∧ d ≤ 1000) (hp : 0 ≤ p ∧ p ≤ 11) (hb : 0 ≤ b ∧ b ≤ 1000) : SpecF Try.prog 57 [.agg [.sl 2 (r.steps.map sR), .v (.int .i64 r.piece), .v (.int .i64 r.fine)], .agg [.v (.int .i64 d), .v (.int .i64 p), .v (.int .i64 b)]] (.v (.int .i64 (wageOf r d p b))) [] := by
  refine spec_go (N := 24) (rs := [.tmp 4]) (eq := eqs) rfl rfl fun_57 rfl (by kernel_rfl) (by kernel_rfl) (by simp) (by simp) (by simp) (by simp) fun R hR => ?_
  simp (maxSteps := 2000000) only [vcA, ↓vcP, ↓reduceIte, reduceCtorEq, Nat.reduceAdd, Nat.reduceMul, Nat.reduceSub, Nat.reduceLT, Nat.reduceLeDiff, Nat.reduceEqDiff, Nat.reduceBEq, Nat.reduceBNe, Nat.reduceGT, Nat.reduceDiv, Nat.reduceMod, Int.reduceAdd, Int.reduceSub, Int.reduceNeg, Int.reduceLT, Int.reduceLE, Int.reduceEq, Int.reduceToNat, fA]
  refine onF_data (dozens_spec r d hok.steps hok.len hd) ?_ ?_
  · simp (maxSteps := 2000000) only [okA, ↓okP, Nat.reduceAdd, Nat.reduceMul, Nat.reduceSub, Nat.reduceLT, Nat.reduceLeDiff, Nat.reduceEqDiff, Nat.reduceBEq, ↓reduceIte, reduceCtorEq]
  simp (maxSteps := 2000000) only [vcA, ↓vcP, ↓reduceIte, reduceCtorEq, Nat.reduceAdd, Nat.reduceMul, Nat.reduceSub, Nat.reduceLT, Nat.reduceLeDiff, Nat.reduceEqDiff, Nat.reduceBEq, Nat.reduceBNe, Nat.reduceGT, Nat.reduceDiv, Nat.reduceMod, Int.reduceAdd, Int.reduceSub, Int.reduceNeg, Int.reduceLT, Int.reduceLE, Int.reduceEq, Int.reduceToNat, fA]
  refine hR _ (fin_of0 ?_)
  simp (maxSteps := 2000000) only [enA, ↓enP, Nat.reduceAdd, Nat.reduceMul, Nat.reduceSub, Nat.reduceLT, Nat.reduceLeDiff, Nat.reduceEqDiff, Nat.reduceBEq, ↓reduceIte, reduceCtorEq, fA]
  have h1 := dz_bound hok.steps hd _ (Nat.le_refl _)
  have h2 := mul_bound hp hok.piece
  have h3 := mul_bound hb hok.fine
  have h4 := hok.len
  rw [wrap_id (x := p * r.piece) (by omega) (by omega), wrap_id (x := b * r.fine) (by omega) (by omega), wrap_id (x := dz _ _ _ + _) (by omega) (by omega), wrap_id (by omega) (by omega)]
  rfl
/-- What is paid, and the error. -/
def pay (r : Rate) (d p b : Int) : Int × Int := if openErr r ≠ 0 then (0, openErr r) else if betw 0 1000 [d, b] && betw 0 11 [p] then (wageOf r d p b, 0) else (0, 3)
theorem pay_spec (r : Rate) (d p b : Int) : SpecF Try.prog 48 [.agg [.sl 2 (r.steps.map sR), .v (.int .i64 r.piece), .v (.int .i64 r.fine)], .agg [.v (.int .i64 d), .v (.int .i64 p), .v (.int .i64 b)]] (.tup [.v (.int .i64 (pay r d p b).1), .v (.int .i64 (pay r d p b).2)]) [] := by
  refine spec_go (N := 33) (rs := [.tmp 4, .tmp 5]) (eq := eqs) rfl rfl fun_48 rfl (by kernel_rfl) (by kernel_rfl) (by simp) (by simp) (by simp) (by simp) fun R hR => ?_
  simp (maxSteps := 2000000) only [vcA, ↓vcP, ↓reduceIte, reduceCtorEq, Nat.reduceAdd, Nat.reduceMul, Nat.reduceSub, Nat.reduceLT, Nat.reduceLeDiff, Nat.reduceEqDiff, Nat.reduceBEq, Nat.reduceBNe, Nat.reduceGT, Nat.reduceDiv, Nat.reduceMod, Int.reduceAdd, Int.reduceSub, Int.reduceNeg, Int.reduceLT, Int.reduceLE, Int.reduceEq, Int.reduceToNat, fA]
  refine onF_data (open_spec r) ?_ ?_
  · simp (maxSteps := 2000000) only [okA, ↓okP, Nat.reduceAdd, Nat.reduceMul, Nat.reduceSub, Nat.reduceLT, Nat.reduceLeDiff, Nat.reduceEqDiff, Nat.reduceBEq, ↓reduceIte, reduceCtorEq]
  simp (maxSteps := 2000000) only [vcA, ↓vcP, ↓reduceIte, reduceCtorEq, Nat.reduceAdd, Nat.reduceMul, Nat.reduceSub, Nat.reduceLT, Nat.reduceLeDiff, Nat.reduceEqDiff, Nat.reduceBEq, Nat.reduceBNe, Nat.reduceGT, Nat.reduceDiv, Nat.reduceMod, Int.reduceAdd, Int.reduceSub, Int.reduceNeg, Int.reduceLT, Int.reduceLE, Int.reduceEq, Int.reduceToNat, fA]
  refine ⟨fun h1 => hR _ (fin_of0 ?_), fun h1 => ?_⟩
  · simp (maxSteps := 2000000) only [enA, ↓enP, Nat.reduceAdd, Nat.reduceMul, Nat.reduceSub, Nat.reduceLT, Nat.reduceLeDiff, Nat.reduceEqDiff, Nat.reduceBEq, ↓reduceIte, reduceCtorEq, fA]
    have : openErr r ≠ 0 := by simpa using h1
    unfold pay
    rw [if_pos this]
    exact ⟨rfl, rfl⟩
  have h0 : openErr r = 0 := by simpa using h1
  obtain ⟨hok, hr⟩ := openErr_ok h0
  rw [hr]
  refine onF_call3 (wage_within 0 1000 [d, b] (by simp)) ?_ ?_
  · simp (maxSteps := 2000000) only [okA, ↓okP, Nat.reduceAdd, Nat.reduceMul, Nat.reduceSub, Nat.reduceLT, Nat.reduceLeDiff, Nat.reduceEqDiff, Nat.reduceBEq, ↓reduceIte, reduceCtorEq]
    rfl
  simp (maxSteps := 2000000) only [vcA, ↓vcP, ↓reduceIte, reduceCtorEq, Nat.reduceAdd, Nat.reduceMul, Nat.reduceSub, Nat.reduceLT, Nat.reduceLeDiff, Nat.reduceEqDiff, Nat.reduceBEq, Nat.reduceBNe, Nat.reduceGT, Nat.reduceDiv, Nat.reduceMod, Int.reduceAdd, Int.reduceSub, Int.reduceNeg, Int.reduceLT, Int.reduceLE, Int.reduceEq, Int.reduceToNat, fA]
  refine ⟨fun h2 => ⟨fun _ => hR _ (fin_of0 ?_), fun h' => by rw [h2] at h'; cases h'⟩, fun h2 => ?_⟩
  · simp (maxSteps := 2000000) only [enA, ↓enP, Nat.reduceAdd, Nat.reduceMul, Nat.reduceSub, Nat.reduceLT, Nat.reduceLeDiff, Nat.reduceEqDiff, Nat.reduceBEq, ↓reduceIte, reduceCtorEq, fA]
    have h3 : betw 0 1000 [d, b] = false := by simpa using h2
    simp [pay, h0, h3]
  have h3 : betw 0 1000 [d, b] = true := by simpa using h2
  refine onF_call3 (wage_within 0 11 [p] (by simp)) ?_ ?_
  · simp (maxSteps := 2000000) only [okA, ↓okP, Nat.reduceAdd, Nat.reduceMul, Nat.reduceSub, Nat.reduceLT, Nat.reduceLeDiff, Nat.reduceEqDiff, Nat.reduceBEq, ↓reduceIte, reduceCtorEq]
    rfl
  simp (maxSteps := 2000000) only [vcA, ↓vcP, ↓reduceIte, reduceCtorEq, Nat.reduceAdd, Nat.reduceMul, Nat.reduceSub, Nat.reduceLT, Nat.reduceLeDiff, Nat.reduceEqDiff, Nat.reduceBEq, Nat.reduceBNe, Nat.reduceGT, Nat.reduceDiv, Nat.reduceMod, Int.reduceAdd, Int.reduceSub, Int.reduceNeg, Int.reduceLT, Int.reduceLE, Int.reduceEq, Int.reduceToNat, fA]
  refine ⟨fun h4 => hR _ (fin_of0 ?_), fun h4 => ?_⟩
  · simp (maxSteps := 2000000) only [enA, ↓enP, Nat.reduceAdd, Nat.reduceMul, Nat.reduceSub, Nat.reduceLT, Nat.reduceLeDiff, Nat.reduceEqDiff, Nat.reduceBEq, ↓reduceIte, reduceCtorEq, fA]
    have h5 : betw 0 11 [p] = false := by simpa using h4
    simp [pay, h0, h5]
  have h5 : betw 0 11 [p] = true := by simpa using h4
  have h6 : (0 ≤ d ∧ d ≤ 1000) ∧ 0 ≤ b ∧ b ≤ 1000 := by simpa [betw] using h3
  refine onF_data (wage_spec r d p b hok h6.1 (betw1 h5) h6.2) ?_ ?_
  · simp (maxSteps := 2000000) only [okA, ↓okP, Nat.reduceAdd, Nat.reduceMul, Nat.reduceSub, Nat.reduceLT, Nat.reduceLeDiff, Nat.reduceEqDiff, Nat.reduceBEq, ↓reduceIte, reduceCtorEq]
  simp (maxSteps := 2000000) only [vcA, ↓vcP, ↓reduceIte, reduceCtorEq, Nat.reduceAdd, Nat.reduceMul, Nat.reduceSub, Nat.reduceLT, Nat.reduceLeDiff, Nat.reduceEqDiff, Nat.reduceBEq, Nat.reduceBNe, Nat.reduceGT, Nat.reduceDiv, Nat.reduceMod, Int.reduceAdd, Int.reduceSub, Int.reduceNeg, Int.reduceLT, Int.reduceLE, Int.reduceEq, Int.reduceToNat, fA]
  refine hR _ (fin_of0 ?_)
  simp (maxSteps := 2000000) only [enA, ↓enP, Nat.reduceAdd, Nat.reduceMul, Nat.reduceSub, Nat.reduceLT, Nat.reduceLeDiff, Nat.reduceEqDiff, Nat.reduceBEq, ↓reduceIte, reduceCtorEq, fA]
  simp [pay, h0, h3, h5]
end Go.Proofs.Ytlckjjaipbiidaa.Ab.T12
namespace Go.Proofs.Ytlckjjaipbiidaa.Ab.T12
open Go Go.RowKit
set_option linter.unusedVariables false
set_option linter.unusedSimpArgs false
set_option maxRecDepth 100000
def sumTo (l : List Int) : Nat → Int
  | 0 => 0
  | i + 1 => sumTo l i + nth l i
/-- The share of one hand. -/
def shareAt (l : List Int) (m : Int) (i : Nat) : Int := m * sumTo l (i + 1) / sumTo l l.length - m * sumTo l i / sumTo l l.length
def shareTo (l : List Int) (m : Int) (i : Nat) : List Int := (List.range i).map (shareAt l m)
theorem shareTo_succ (l : List Int) (m : Int) (i : Nat) : shareTo l m (i + 1) = shareTo l m i ++ [shareAt l m i] := by simp [shareTo, List.range_succ]
theorem shareTo_length (l : List Int) (m : Int) (i : Nat) : (shareTo l m i).length = i := by simp [shareTo]
def shareErr (l : List Int) (m : Int) : Int := if 6 < l.length then 5 else if l.length = 0 then 7 else if !betw 1 1000 l then 2 else if !betw 0 10000 [m] then 3 else 0
def shares (l : List Int) (m : Int) : List Int := if shareErr l m = 0 then shareTo l m l.length else []
theorem betw_mem {lo hi : Int} {l : List Int} (h : betw lo hi l = true) {n : Int} (hn : n ∈ l) : lo ≤ n ∧ n ≤ hi := by
  unfold betw at h
  simpa using List.all_eq_true.1 h n hn
theorem sumTo_bound {l : List Int} (h : betw 1 1000 l = true) : ∀ {i : Nat}, i ≤ l.length → (i : Int) ≤ sumTo l i ∧ sumTo l i ≤ 1000 * i
  | 0, _ => by simp [sumTo]
  | i + 1, hi => by
    have h1 := sumTo_bound h (i := i) (by omega)
    have h2 := betw_mem h (nth_mem (l := l) (i := i) (by omega))
    simp only [sumTo]
    omega
theorem sumTo_mono {l : List Int} (h : betw 1 1000 l = true) : ∀ {i j : Nat}, i ≤ j → j ≤ l.length → sumTo l i ≤ sumTo l j := by
  intro i j hij
  induction j with
  | zero => intro _; have : i = 0 := by omega
            subst this; exact Int.le_refl _
  | succ j ih =>
    intro hj
    by_cases he : i = j + 1
    · subst he; exact Int.le_refl _
    · have h1 := ih (by omega) (by omega)
      have h2 := betw_mem h (nth_mem (l := l) (i := j) (by omega))
      simp only [sumTo]
      omega
theorem share_spec (l : List Int) (m : Int) (hl : l.length < 1000000) : SpecF Try.prog 26 [.sl 1 (l.map iR), .v (.int .i64 m)] (.tup [.ob 0 (shares l m).length, .v (.int .i64 (shareErr l m))]) [.row 3 1 ((shares l m).map iR) false] := by
  have hbad : shareErr l m ≠ 0 → shares l m = [] := fun h => by unfold shares; rw [if_neg h]
  refine spec_go (N := 66) (rs := [.tmp 4, .tmp 5]) (eq := eqs) rfl rfl fun_26 rfl (by kernel_rfl) (by kernel_rfl) (by simp) (by simp) (by simp) (by simp) fun R hR => ?_
  simp (maxSteps := 2000000) only [vcA, ↓vcP, ↓reduceIte, reduceCtorEq, Nat.reduceAdd, Nat.reduceMul, Nat.reduceSub, Nat.reduceLT, Nat.reduceLeDiff, Nat.reduceEqDiff, Nat.reduceBEq, Nat.reduceBNe, Nat.reduceGT, Nat.reduceDiv, Nat.reduceMod, Int.reduceAdd, Int.reduceSub, Int.reduceNeg, Int.reduceLT, Int.reduceLE, Int.reduceEq, Int.reduceToNat, fA]
  refine ⟨fun h1 => hR _ (fin_of1 [none] ?_), fun h1 => ⟨fun h2 => hR _ (fin_of1 [none] ?_), fun h2 => ?_⟩⟩
  · have he : shareErr l m = 5 := by unfold shareErr; rw [if_pos (by omega)]
    rw [hbad (by rw [he]; omega), he]
    simp (maxSteps := 2000000) only [enA, ↓enP, Nat.reduceAdd, Nat.reduceMul, Nat.reduceSub, Nat.reduceLT, Nat.reduceLeDiff, Nat.reduceEqDiff, Nat.reduceBEq, ↓reduceIte, reduceCtorEq, fA]
  · have h3 : l.length = 0 := by simpa using h2
    have he : shareErr l m = 7 := by unfold shareErr; rw [if_neg (by omega), if_pos h3]
    rw [hbad (by rw [he]; omega), he]
    simp (maxSteps := 2000000) only [enA, ↓enP, Nat.reduceAdd, Nat.reduceMul, Nat.reduceSub, Nat.reduceLT, Nat.reduceLeDiff, Nat.reduceEqDiff, Nat.reduceBEq, ↓reduceIte, reduceCtorEq, fA]
  have h3 : l.length ≠ 0 := by simpa using h2
  refine onF_data (wage_within 1 1000 l hl) ?_ ?_
  · simp (maxSteps := 2000000) only [okA, ↓okP, Nat.reduceAdd, Nat.reduceMul, Nat.reduceSub, Nat.reduceLT, Nat.reduceLeDiff, Nat.reduceEqDiff, Nat.reduceBEq, ↓reduceIte, reduceCtorEq]
  simp (maxSteps := 2000000) only [vcA, ↓vcP, ↓reduceIte, reduceCtorEq, Nat.reduceAdd, Nat.reduceMul, Nat.reduceSub, Nat.reduceLT, Nat.reduceLeDiff, Nat.reduceEqDiff, Nat.reduceBEq, Nat.reduceBNe, Nat.reduceGT, Nat.reduceDiv, Nat.reduceMod, Int.reduceAdd, Int.reduceSub, Int.reduceNeg, Int.reduceLT, Int.reduceLE, Int.reduceEq, Int.reduceToNat, fA]
  refine ⟨fun h4 => hR _ (fin_of1 [none] ?_), fun h4 => ?_⟩
  · have he : shareErr l m = 2 := by unfold shareErr; rw [if_neg (by omega), if_neg h3, if_pos h4]
    rw [hbad (by rw [he]; omega), he]
    simp (maxSteps := 2000000) only [enA, ↓enP, Nat.reduceAdd, Nat.reduceMul, Nat.reduceSub, Nat.reduceLT, Nat.reduceLeDiff, Nat.reduceEqDiff, Nat.reduceBEq, ↓reduceIte, reduceCtorEq, fA]
  refine onF_call3 (wage_within 0 10000 [m] (by simp)) ?_ ?_
  · simp (maxSteps := 2000000) only [okA, ↓okP, Nat.reduceAdd, Nat.reduceMul, Nat.reduceSub, Nat.reduceLT, Nat.reduceLeDiff, Nat.reduceEqDiff, Nat.reduceBEq, ↓reduceIte, reduceCtorEq]
    rfl
  simp (maxSteps := 2000000) only [vcA, ↓vcP, ↓reduceIte, reduceCtorEq, Nat.reduceAdd, Nat.reduceMul, Nat.reduceSub, Nat.reduceLT, Nat.reduceLeDiff, Nat.reduceEqDiff, Nat.reduceBEq, Nat.reduceBNe, Nat.reduceGT, Nat.reduceDiv, Nat.reduceMod, Int.reduceAdd, Int.reduceSub, Int.reduceNeg, Int.reduceLT, Int.reduceLE, Int.reduceEq, Int.reduceToNat, fA]
  refine ⟨fun h5 => hR _ (fin_of1 [none] ?_), fun h5 => ?_⟩
  · have he : shareErr l m = 3 := by unfold shareErr; rw [if_neg (by omega), if_neg h3, if_neg (by rw [h4]; decide), if_pos h5]
    rw [hbad (by rw [he]; omega), he]
    simp (maxSteps := 2000000) only [enA, ↓enP, Nat.reduceAdd, Nat.reduceMul, Nat.reduceSub, Nat.reduceLT, Nat.reduceLeDiff, Nat.reduceEqDiff, Nat.reduceBEq, ↓reduceIte, reduceCtorEq, fA]
  have h0 : shareErr l m = 0 := by unfold shareErr; rw [if_neg (by omega), if_neg h3, if_neg (by rw [h4]; decide), if_neg (by rw [h5]; decide)]
  have hs : shares l m = shareTo l m l.length := by unfold shares; rw [if_pos h0]
  have hb : betw 1 1000 l = true := by simpa using h4
  have hm := betw1 (by simpa using h5 : betw 0 10000 [m] = true)
  rw [hs, h0, shareTo_length] at hR
  clear hbad
  have hw : ∀ i : Nat, i < l.length → IntKind.i64.wrap ((i : Int) + 1) = ((i + 1 : Nat) : Int) := fun i h => by rw [wrap_id (by omega) (by omega)]; rfl
  refine goC_loop (α := {i : Nat // i ≤ l.length}) (fun x => ⟨[(0, .sl 1 (l.map iR)), (1, .v (.int .i64 m)), (4, .v (.slice none 0 0)), (6, .v (.int .i64 (sumTo l x.1))), (30, .sl 1 (l.map iR)), (31, .v (.int .i64 l.length)), (32, .v (.int .i64 x.1))], []⟩) (fun x => l.length - x.1) ⟨0, by omega⟩ [] ?_ ?_
  · simp (maxSteps := 2000000) only [enA, ↓enP, Nat.reduceAdd, Nat.reduceMul, Nat.reduceSub, Nat.reduceLT, Nat.reduceLeDiff, Nat.reduceEqDiff, Nat.reduceBEq, ↓reduceIte, reduceCtorEq, fA]
    exact ⟨rfl, rfl⟩
  intro x B hB
  obtain ⟨i, hi'⟩ := x
  simp (maxSteps := 2000000) only [vcA, ↓vcP, ↓reduceIte, reduceCtorEq, Nat.reduceAdd, Nat.reduceMul, Nat.reduceSub, Nat.reduceLT, Nat.reduceLeDiff, Nat.reduceEqDiff, Nat.reduceBEq, Nat.reduceBNe, Nat.reduceGT, Nat.reduceDiv, Nat.reduceMod, Int.reduceAdd, Int.reduceSub, Int.reduceNeg, Int.reduceLT, Int.reduceLE, Int.reduceEq, Int.reduceToNat, fA, iR]
  refine ⟨fun h7 => ⟨h7, fun _ => ⟨h7, fun _ => hB _ ⟨i + 1, by omega⟩ [] ?_ rfl ?_⟩⟩, fun h7 => ?_⟩
  · simp only; omega
  · simp (maxSteps := 2000000) only [enA, ↓enP, Nat.reduceAdd, Nat.reduceMul, Nat.reduceSub, Nat.reduceLT, Nat.reduceLeDiff, Nat.reduceEqDiff, Nat.reduceBEq, ↓reduceIte, reduceCtorEq, fA]
    have h8 := sumTo_bound hb (i := i) (by omega)
    have h9 := betw_mem hb (nth_mem h7)
    refine ⟨?_, hw i h7⟩
    rw [wrap_id (by omega) (by omega)]
    rfl
  have hil : i = l.length := by omega
  subst hil
  clear hB B h7
  refine goC_loop (α := {i : Nat // i ≤ l.length}) (fun x => ⟨[(1, .v (.int .i64 m)), (4, .ob 272 x.1), (6, .v (.int .i64 (sumTo l l.length))), (9, .v (.int .i64 (sumTo l x.1))), (10, .v (.int .i64 (m * sumTo l x.1 / sumTo l l.length))), (40, .sl 1 (l.map iR)), (41, .v (.int .i64 l.length)), (42, .v (.int .i64 x.1))], [(272, .row 3 1 ((shareTo l m x.1).map iR) false)]⟩) (fun x => l.length - x.1) ⟨0, by omega⟩ [none] ?_ ?_
  · simp (maxSteps := 2000000) only [enA, ↓enP, Nat.reduceAdd, Nat.reduceMul, Nat.reduceSub, Nat.reduceLT, Nat.reduceLeDiff, Nat.reduceEqDiff, Nat.reduceBEq, ↓reduceIte, reduceCtorEq, fA]
    simp [sumTo, shareTo]
  intro x B hB
  obtain ⟨i, hi'⟩ := x
  simp (maxSteps := 2000000) only [vcA, ↓vcP, ↓reduceIte, reduceCtorEq, Nat.reduceAdd, Nat.reduceMul, Nat.reduceSub, Nat.reduceLT, Nat.reduceLeDiff, Nat.reduceEqDiff, Nat.reduceBEq, Nat.reduceBNe, Nat.reduceGT, Nat.reduceDiv, Nat.reduceMod, Int.reduceAdd, Int.reduceSub, Int.reduceNeg, Int.reduceLT, Int.reduceLE, Int.reduceEq, Int.reduceToNat, fA, iR]
  have hall := sumTo_bound hb (Nat.le_refl l.length)
  have hlen := shareTo_length l m i
  have hml : (shareTo l m i).length + 1 ≤ maxLen := by rw [hlen]; simp only [maxLen]; omega
  refine ⟨fun h7 => ⟨h7, fun _ => ⟨h7, fun _ => ⟨by omega, fun _ => ⟨⟨by omega, hml⟩, fun _ => ⟨by omega, fun _ => hB _ ⟨i + 1, by omega⟩ [some 440] ?_ rfl ?_⟩⟩⟩⟩⟩, fun h7 => hR _ (fin_of1 [some 272] ?_)⟩
  · simp only; omega
  · have h8 := sumTo_bound hb (i := i) (by omega)
    have h9 := betw_mem hb (nth_mem h7)
    have h10 := sumTo_mono hb (i := i + 1) (j := l.length) (by omega) (Nat.le_refl _)
    have h10' := sumTo_mono hb (i := i) (j := l.length) (by omega) (Nat.le_refl _)
    have h8' := sumTo_bound hb (i := i + 1) (by omega)
    have e1 : IntKind.i64.wrap (sumTo l i + nth l i) = sumTo l (i + 1) := by rw [wrap_id (by omega) (by omega)]; rfl
    have h11 := mul_bound (a := m) (b := sumTo l (i + 1)) (m := 10000) (k := sumTo l l.length) hm ⟨by omega, h10⟩
    have h11' := mul_bound (a := m) (b := sumTo l i) (m := 10000) (k := sumTo l l.length) hm ⟨by omega, h10'⟩
    have e2 : IntKind.i64.wrap (m * sumTo l (i + 1)) = m * sumTo l (i + 1) := wrap_id (by omega) (by omega)
    have q : ∀ x : Int, 0 ≤ x → x ≤ 10000 * sumTo l l.length → 0 ≤ x / sumTo l l.length ∧ x / sumTo l l.length ≤ 10000 := fun x h0 h1 =>
      ⟨Int.ediv_nonneg h0 (by omega), Int.ediv_le_of_le_mul (by omega) h1⟩
    have h12 := q _ h11.1 h11.2
    have h12' := q _ h11'.1 h11'.2
    have e3 : IntKind.i64.wrap ((m * sumTo l (i + 1)).tdiv (sumTo l l.length)) = m * sumTo l (i + 1) / sumTo l l.length := by rw [quo_of h11.1, wrap_id (by omega) (by omega)]
    rw [e1, e2, e3]
    simp (maxSteps := 2000000) only [enA, ↓enP, Nat.reduceAdd, Nat.reduceMul, Nat.reduceSub, Nat.reduceLT, Nat.reduceLeDiff, Nat.reduceEqDiff, Nat.reduceBEq, ↓reduceIte, reduceCtorEq, fA]
    rw [wrap_id (x := m * sumTo l (i + 1) / sumTo l l.length - _) (by omega) (by omega), shareTo_succ, List.map_append, hlen]
    exact ⟨⟨rfl, hw i h7⟩, rfl⟩
  · have hil : i = l.length := by omega
    subst hil
    simp (maxSteps := 2000000) only [enA, ↓enP, Nat.reduceAdd, Nat.reduceMul, Nat.reduceSub, Nat.reduceLT, Nat.reduceLeDiff, Nat.reduceEqDiff, Nat.reduceBEq, ↓reduceIte, reduceCtorEq, fA]
end Go.Proofs.Ytlckjjaipbiidaa.Ab.T12
