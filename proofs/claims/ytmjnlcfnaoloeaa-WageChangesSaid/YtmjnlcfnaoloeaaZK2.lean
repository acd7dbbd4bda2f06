/- The document's bills: errors, numbers that cannot be read, lines that are wrong. -/
import Derived.Test.YtmjnlcfnaoloeaaZK1
namespace Go.Proofs.Ytmjnlcfnaoloeaa.Ab.T12
open Go Go.RowKit
set_option linter.unusedVariables false
set_option linter.unusedSimpArgs false
set_option maxRecDepth 100000
def okN (b : Bl) (i : Nat) : Bool := betw (-1) (mostAt b.lines.length i) [numAt b i]
theorem okN_iff {b : Bl} {i : Nat} : okN b i = true ↔ -1 ≤ numAt b i ∧ numAt b i ≤ mostAt b.lines.length i := by
  unfold okN
  rw [betw_one]
  simp
theorem okN_all {b : Bl} (h : ∀ i, i ≤ b.lines.length * 3 → okN b i = true) : b.lines.any badLn = false ∧ betw (-1) 12500 [b.total] = true := by
  constructor
  · rw [List.any_eq_false]
    intro l hl
    obtain ⟨k, hk, rfl⟩ := List.mem_iff_getElem.1 hl
    have e : nth b.lines k = b.lines[k] := by
      have := nth_eq hk
      rw [List.getElem?_eq_getElem hk] at this
      exact (Option.some.inj this).symm
    have g : ∀ f, f < 3 → -1 ≤ fldL (b.lines[k]) f ∧ fldL (b.lines[k]) f ≤ (if f = 2 then 2500 else 50) := fun f hf => by
      have h1 := okN_iff.1 (h (k * 3 + f) (by omega))
      rw [numAt_lt (by omega), mostAt_lt (by omega), show (k * 3 + f) / 3 = k by omega, show (k * 3 + f) % 3 = f by omega, e] at h1
      refine ⟨h1.1, ?_⟩
      have h2 := h1.2
      split at h2
      · rename_i hf2; rw [if_pos hf2]; exact h2
      · rename_i hf2; rw [if_neg hf2]; exact h2
    have g0 := g 0 (by omega)
    have g1 := g 1 (by omega)
    have g2 := g 2 (by omega)
    simp [fldL] at g0 g1 g2
    unfold badLn
    simp [betw]
    omega
  · have h1 := okN_iff.1 (h (b.lines.length * 3) (Nat.le_refl _))
    rw [numAt_end, mostAt_end] at h1
    simp [betw]
    omega
theorem okN_bad {b : Bl} {i : Nat} (hi : i ≤ b.lines.length * 3) (h : okN b i = false) : (b.lines.any badLn || !betw (-1) 12500 [b.total]) = true := by
  cases h2 : (b.lines.any badLn || !betw (-1) 12500 [b.total]) with
  | true => rfl
  | false =>
    simp only [Bool.or_eq_false_iff, Bool.not_eq_eq_eq_not, Bool.not_false, List.any_eq_false] at h2
    have : okN b i = true := okN_iff.2 (by
      by_cases c : i < b.lines.length * 3
      · have h3 := h2.1 _ (nth_mem (l := b.lines) (i := i / 3) (by omega))
        rw [numAt_lt c, mostAt_lt c]
        simp [badLn, betw] at h3
        rcases (by omega : i % 3 = 0 ∨ i % 3 = 1 ∨ i % 3 = 2) with h | h | h <;> rw [h] <;> simp [fldL] <;> omega
      · obtain rfl : i = b.lines.length * 3 := by omega
        have h3 := betw1 h2.2
        rw [numAt_end, mostAt_end]
        omega)
    rw [this] at h
    cases h
set_option maxHeartbeats 4000000 in
theorem rbill_spec (b : Bl) (hl : b.lines.length ≤ 20) : SpecF Try.prog 27 [.agg [.sl 3 (b.lines.map lnR), .v (.int .i64 b.total)]] (.v (.int .i64 (billErr b))) [] := by
  have ml := allM_len b.lines.length
  refine spec_go (N := 31) (rs := [.tmp 2]) (eq := eqs) rfl rfl fun_27 rfl (by kernel_rfl) (by kernel_rfl) (by simp) (by simp) (by simp) (by simp) fun R hR => ?_
  by_cases c5 : 5 < b.lines.length
  · have e : billErr b = 5 := if_pos c5
    have q1 : ((b.lines.length : Int) > 5) = True := eq_true (by omega)
    simp (maxSteps := 2000000) only [vcA, ↓vcP, ↓reduceIte, reduceCtorEq, Nat.reduceAdd, Nat.reduceMul, Nat.reduceSub, Nat.reduceLT, Nat.reduceLeDiff, Nat.reduceEqDiff, Nat.reduceBEq, Nat.reduceBNe, Nat.reduceGT, Nat.reduceDiv, Nat.reduceMod, Int.reduceAdd, Int.reduceSub, Int.reduceNeg, Int.reduceLT, Int.reduceLE, Int.reduceEq, Int.reduceToNat, fA, q1]
    refine hR _ (fin_of0 ?_)
    simp (maxSteps := 2000000) only [enA, ↓enP, Nat.reduceAdd, Nat.reduceMul, Nat.reduceSub, Nat.reduceLT, Nat.reduceLeDiff, Nat.reduceEqDiff, Nat.reduceBEq, ↓reduceIte, reduceCtorEq, fA, e]
  have q1 : ((b.lines.length : Int) > 5) = False := eq_false (by omega)
  simp (maxSteps := 2000000) only [vcA, ↓vcP, ↓reduceIte, reduceCtorEq, Nat.reduceAdd, Nat.reduceMul, Nat.reduceSub, Nat.reduceLT, Nat.reduceLeDiff, Nat.reduceEqDiff, Nat.reduceBEq, Nat.reduceBNe, Nat.reduceGT, Nat.reduceDiv, Nat.reduceMod, Int.reduceAdd, Int.reduceSub, Int.reduceNeg, Int.reduceLT, Int.reduceLE, Int.reduceEq, Int.reduceToNat, fA, q1]
  refine onF_data (marks_spec b hl) ?_ ?_
  · simp (maxSteps := 2000000) only [okA, ↓okP, Nat.reduceAdd, Nat.reduceMul, Nat.reduceSub, Nat.reduceLT, Nat.reduceLeDiff, Nat.reduceEqDiff, Nat.reduceBEq, ↓reduceIte, reduceCtorEq]
  simp (maxSteps := 2000000) only [vcA, ↓vcP, ↓reduceIte, reduceCtorEq, Nat.reduceAdd, Nat.reduceMul, Nat.reduceSub, Nat.reduceLT, Nat.reduceLeDiff, Nat.reduceEqDiff, Nat.reduceBEq, Nat.reduceBNe, Nat.reduceGT, Nat.reduceDiv, Nat.reduceMod, Int.reduceAdd, Int.reduceSub, Int.reduceNeg, Int.reduceLT, Int.reduceLE, Int.reduceEq, Int.reduceToNat, fA]
  refine goC_loop (α := {i : Nat // i ≤ b.lines.length * 3 + 1 ∧ ∀ j, j < i → okN b j = true}) (fun x => ⟨[(1, .ptr 8 0), (3, .sl 2 ((allM b.lines.length (b.lines.length * 3 + 1)).map mkR)), (4, .v (.int .i64 x.1))], [(8, .box 51 [.sl 3 (b.lines.map lnR), .v (.int .i64 b.total)])]⟩) (fun x => b.lines.length * 3 + 1 - x.1) ⟨0, by omega, by omega⟩ [] ?_ ?_
  · simp (maxSteps := 2000000) only [enA, ↓enP, Nat.reduceAdd, Nat.reduceMul, Nat.reduceSub, Nat.reduceLT, Nat.reduceLeDiff, Nat.reduceEqDiff, Nat.reduceBEq, ↓reduceIte, reduceCtorEq, fA]
    try rfl
  intro x B hB
  obtain ⟨i, hi, hj⟩ := x
  simp only at hB ⊢
  by_cases c : i < b.lines.length * 3 + 1
  · have p1 : ((i : Int) < ((b.lines.length * 3 + 1 : Nat) : Int)) = True := eq_true (by omega)
    have p1' : (i < b.lines.length * 3 + 1) = True := eq_true c
    have ei : IntKind.i64.wrap ((i : Int) + 1) = ((i + 1 : Nat) : Int) := wrap_id (by omega) (by omega)
    have en := allM_nth (n := b.lines.length) c
    simp (maxSteps := 2000000) only [vcA, ↓vcP, ↓reduceIte, reduceCtorEq, Nat.reduceAdd, Nat.reduceMul, Nat.reduceSub, Nat.reduceLT, Nat.reduceLeDiff, Nat.reduceEqDiff, Nat.reduceBEq, Nat.reduceBNe, Nat.reduceGT, Nat.reduceDiv, Nat.reduceMod, Int.reduceAdd, Int.reduceSub, Int.reduceNeg, Int.reduceLT, Int.reduceLE, Int.reduceEq, Int.reduceToNat, fA, ml, p1, p1', en, mkR]
    refine onF_data (get_spec b i hl (by omega)) ?_ ?_
    · simp (maxSteps := 2000000) only [okA, ↓okP, Nat.reduceAdd, Nat.reduceMul, Nat.reduceSub, Nat.reduceLT, Nat.reduceLeDiff, Nat.reduceEqDiff, Nat.reduceBEq, ↓reduceIte, reduceCtorEq]
    simp (maxSteps := 2000000) only [vcA, ↓vcP, ↓reduceIte, reduceCtorEq, Nat.reduceAdd, Nat.reduceMul, Nat.reduceSub, Nat.reduceLT, Nat.reduceLeDiff, Nat.reduceEqDiff, Nat.reduceBEq, Nat.reduceBNe, Nat.reduceGT, Nat.reduceDiv, Nat.reduceMod, Int.reduceAdd, Int.reduceSub, Int.reduceNeg, Int.reduceLT, Int.reduceLE, Int.reduceEq, Int.reduceToNat, fA, ml, p1, p1', en, mkR]
    refine onF_data (rmost_spec b.lines.length i) ?_ ?_
    · simp (maxSteps := 2000000) only [okA, ↓okP, Nat.reduceAdd, Nat.reduceMul, Nat.reduceSub, Nat.reduceLT, Nat.reduceLeDiff, Nat.reduceEqDiff, Nat.reduceBEq, ↓reduceIte, reduceCtorEq]
    simp (maxSteps := 2000000) only [vcA, ↓vcP, ↓reduceIte, reduceCtorEq, Nat.reduceAdd, Nat.reduceMul, Nat.reduceSub, Nat.reduceLT, Nat.reduceLeDiff, Nat.reduceEqDiff, Nat.reduceBEq, Nat.reduceBNe, Nat.reduceGT, Nat.reduceDiv, Nat.reduceMod, Int.reduceAdd, Int.reduceSub, Int.reduceNeg, Int.reduceLT, Int.reduceLE, Int.reduceEq, Int.reduceToNat, fA]
    refine onF_data (in_spec (numAt b i) (-1) (mostAt b.lines.length i)) ?_ ?_
    · simp (maxSteps := 2000000) only [okA, ↓okP, Nat.reduceAdd, Nat.reduceMul, Nat.reduceSub, Nat.reduceLT, Nat.reduceLeDiff, Nat.reduceEqDiff, Nat.reduceBEq, ↓reduceIte, reduceCtorEq]
    cases h1 : betw (-1) (mostAt b.lines.length i) [numAt b i] with
    | false =>
      have e : billErr b = 2 := by unfold billErr; rw [if_neg c5, if_pos (okN_bad (by omega) h1)]
      simp (maxSteps := 2000000) only [vcA, ↓vcP, ↓reduceIte, reduceCtorEq, Nat.reduceAdd, Nat.reduceMul, Nat.reduceSub, Nat.reduceLT, Nat.reduceLeDiff, Nat.reduceEqDiff, Nat.reduceBEq, Nat.reduceBNe, Nat.reduceGT, Nat.reduceDiv, Nat.reduceMod, Int.reduceAdd, Int.reduceSub, Int.reduceNeg, Int.reduceLT, Int.reduceLE, Int.reduceEq, Int.reduceToNat, fA]
      try refine ⟨by kernel_rfl, ?_⟩
      refine hR _ (fin_of0 ?_)
      simp (maxSteps := 2000000) only [enA, ↓enP, Nat.reduceAdd, Nat.reduceMul, Nat.reduceSub, Nat.reduceLT, Nat.reduceLeDiff, Nat.reduceEqDiff, Nat.reduceBEq, ↓reduceIte, reduceCtorEq, fA, e]
    | true =>
      simp (maxSteps := 2000000) only [vcA, ↓vcP, ↓reduceIte, reduceCtorEq, Nat.reduceAdd, Nat.reduceMul, Nat.reduceSub, Nat.reduceLT, Nat.reduceLeDiff, Nat.reduceEqDiff, Nat.reduceBEq, Nat.reduceBNe, Nat.reduceGT, Nat.reduceDiv, Nat.reduceMod, Int.reduceAdd, Int.reduceSub, Int.reduceNeg, Int.reduceLT, Int.reduceLE, Int.reduceEq, Int.reduceToNat, fA]
      try refine ⟨by kernel_rfl, ?_⟩
      refine hB _ ⟨i + 1, by omega, fun j hj' => by
        by_cases cj : j = i
        · subst cj; exact h1
        · exact hj j (by omega)⟩ [] (by simp only; omega) rfl ?_
      simp (maxSteps := 2000000) only [enA, ↓enP, Nat.reduceAdd, Nat.reduceMul, Nat.reduceSub, Nat.reduceLT, Nat.reduceLeDiff, Nat.reduceEqDiff, Nat.reduceBEq, ↓reduceIte, reduceCtorEq, fA, ei]
  obtain rfl : i = b.lines.length * 3 + 1 := by omega
  have p1 : (((b.lines.length * 3 + 1 : Nat) : Int) < ((b.lines.length * 3 + 1 : Nat) : Int)) = False := eq_false (by omega)
  have p1' : (b.lines.length * 3 + 1 < b.lines.length * 3 + 1) = False := eq_false c
  have hk := okN_all fun i hi => hj i (by omega)
  have e : billErr b = 0 := by unfold billErr; rw [if_neg c5, hk.1, hk.2]; rfl
  simp (maxSteps := 2000000) only [vcA, ↓vcP, ↓reduceIte, reduceCtorEq, Nat.reduceAdd, Nat.reduceMul, Nat.reduceSub, Nat.reduceLT, Nat.reduceLeDiff, Nat.reduceEqDiff, Nat.reduceBEq, Nat.reduceBNe, Nat.reduceGT, Nat.reduceDiv, Nat.reduceMod, Int.reduceAdd, Int.reduceSub, Int.reduceNeg, Int.reduceLT, Int.reduceLE, Int.reduceEq, Int.reduceToNat, fA, ml, p1, p1']
  refine hR _ (fin_of0 ?_)
  simp (maxSteps := 2000000) only [enA, ↓enP, Nat.reduceAdd, Nat.reduceMul, Nat.reduceSub, Nat.reduceLT, Nat.reduceLeDiff, Nat.reduceEqDiff, Nat.reduceBEq, ↓reduceIte, reduceCtorEq, fA, e]
theorem rblots0_spec (b : Bl) (hl : b.lines.length ≤ 20) : SpecF Try.prog 31 [.agg [.sl 3 (b.lines.map lnR), .v (.int .i64 b.total)]] (.ob 0 (blotL b).length) [.row 63 2 ((blotL b).map mkR) false] := by
  have ml := allM_len b.lines.length
  refine spec_go (N := 30) (rs := [.tmp 2]) (eq := eqs) rfl rfl fun_31 rfl (by kernel_rfl) (by kernel_rfl) (by simp) (by simp) (by simp) (by simp) fun R hR => ?_
  simp (maxSteps := 2000000) only [vcA, ↓vcP, ↓reduceIte, reduceCtorEq, Nat.reduceAdd, Nat.reduceMul, Nat.reduceSub, Nat.reduceLT, Nat.reduceLeDiff, Nat.reduceEqDiff, Nat.reduceBEq, Nat.reduceBNe, Nat.reduceGT, Nat.reduceDiv, Nat.reduceMod, Int.reduceAdd, Int.reduceSub, Int.reduceNeg, Int.reduceLT, Int.reduceLE, Int.reduceEq, Int.reduceToNat, fA]
  refine onF_data (marks_spec b hl) ?_ ?_
  · simp (maxSteps := 2000000) only [okA, ↓okP, Nat.reduceAdd, Nat.reduceMul, Nat.reduceSub, Nat.reduceLT, Nat.reduceLeDiff, Nat.reduceEqDiff, Nat.reduceBEq, ↓reduceIte, reduceCtorEq]
  simp (maxSteps := 2000000) only [vcA, ↓vcP, ↓reduceIte, reduceCtorEq, Nat.reduceAdd, Nat.reduceMul, Nat.reduceSub, Nat.reduceLT, Nat.reduceLeDiff, Nat.reduceEqDiff, Nat.reduceBEq, Nat.reduceBNe, Nat.reduceGT, Nat.reduceDiv, Nat.reduceMod, Int.reduceAdd, Int.reduceSub, Int.reduceNeg, Int.reduceLT, Int.reduceLE, Int.reduceEq, Int.reduceToNat, fA]
  have K : True := trivial
  refine goC_loop (α := {i : Nat // i ≤ b.lines.length * 3 + 1}) (fun x => ⟨[(1, .ptr 8 0), (3, .ob 72 (blotT b x.1).length), (4, .sl 2 ((allM b.lines.length (b.lines.length * 3 + 1)).map mkR)), (5, .v (.int .i64 x.1))], [(8, .box 51 [.sl 3 (b.lines.map lnR), .v (.int .i64 b.total)]), (72, .row 63 2 ((blotT b x.1).map mkR) false)]⟩) (fun x => b.lines.length * 3 + 1 - x.1) ⟨0, by omega⟩ [some 24] ?_ ?_
  · simp (maxSteps := 2000000) only [enA, ↓enP, Nat.reduceAdd, Nat.reduceMul, Nat.reduceSub, Nat.reduceLT, Nat.reduceLeDiff, Nat.reduceEqDiff, Nat.reduceBEq, ↓reduceIte, reduceCtorEq, fA, blotT]
    exact ⟨⟨rfl, rfl⟩, rfl⟩
  intro x B hB
  obtain ⟨i, hi⟩ := x
  simp only at hB ⊢
  have bl := blotT_len b i
  by_cases c : i < b.lines.length * 3 + 1
  · have p1 : ((i : Int) < ((b.lines.length * 3 + 1 : Nat) : Int)) = True := eq_true (by omega)
    have p1' : (i < b.lines.length * 3 + 1) = True := eq_true c
    have ei : IntKind.i64.wrap ((i : Int) + 1) = ((i + 1 : Nat) : Int) := wrap_id (by omega) (by omega)
    have en := allM_nth (n := b.lines.length) c
    have bs := blotT_succ b i
    simp (maxSteps := 2000000) only [vcA, ↓vcP, ↓reduceIte, reduceCtorEq, Nat.reduceAdd, Nat.reduceMul, Nat.reduceSub, Nat.reduceLT, Nat.reduceLeDiff, Nat.reduceEqDiff, Nat.reduceBEq, Nat.reduceBNe, Nat.reduceGT, Nat.reduceDiv, Nat.reduceMod, Int.reduceAdd, Int.reduceSub, Int.reduceNeg, Int.reduceLT, Int.reduceLE, Int.reduceEq, Int.reduceToNat, fA, ml, p1, p1', en, mkR]
    refine onF_data (get_spec b i hl (by omega)) ?_ ?_
    · simp (maxSteps := 2000000) only [okA, ↓okP, Nat.reduceAdd, Nat.reduceMul, Nat.reduceSub, Nat.reduceLT, Nat.reduceLeDiff, Nat.reduceEqDiff, Nat.reduceBEq, ↓reduceIte, reduceCtorEq]
    cases h1 : (numAt b i == -1) with
    | false =>
      rw [h1, if_neg (by simp), List.append_nil] at bs
      simp (maxSteps := 2000000) only [vcA, ↓vcP, ↓reduceIte, reduceCtorEq, Nat.reduceAdd, Nat.reduceMul, Nat.reduceSub, Nat.reduceLT, Nat.reduceLeDiff, Nat.reduceEqDiff, Nat.reduceBEq, Nat.reduceBNe, Nat.reduceGT, Nat.reduceDiv, Nat.reduceMod, Int.reduceAdd, Int.reduceSub, Int.reduceNeg, Int.reduceLT, Int.reduceLE, Int.reduceEq, Int.reduceToNat, fA, h1]
      try refine ⟨by kernel_rfl, ?_⟩
      refine hB _ ⟨i + 1, by omega⟩ [some 72] (by simp only; omega) rfl ?_
      simp (maxSteps := 2000000) only [enA, ↓enP, Nat.reduceAdd, Nat.reduceMul, Nat.reduceSub, Nat.reduceLT, Nat.reduceLeDiff, Nat.reduceEqDiff, Nat.reduceBEq, ↓reduceIte, reduceCtorEq, fA, ei, bs]
    | true =>
      rw [h1, if_pos rfl] at bs
      simp (maxSteps := 2000000) only [vcA, ↓vcP, ↓reduceIte, reduceCtorEq, Nat.reduceAdd, Nat.reduceMul, Nat.reduceSub, Nat.reduceLT, Nat.reduceLeDiff, Nat.reduceEqDiff, Nat.reduceBEq, Nat.reduceBNe, Nat.reduceGT, Nat.reduceDiv, Nat.reduceMod, Int.reduceAdd, Int.reduceSub, Int.reduceNeg, Int.reduceLT, Int.reduceLE, Int.reduceEq, Int.reduceToNat, fA, h1, ml, p1, p1', en, mkR]
      refine ⟨⟨by omega, by simp only [maxLen]; omega⟩, fun _ => ?_⟩
      refine hB _ ⟨i + 1, by omega⟩ [some 240] (by simp only; omega) rfl ?_
      simp (maxSteps := 2000000) only [enA, ↓enP, Nat.reduceAdd, Nat.reduceMul, Nat.reduceSub, Nat.reduceLT, Nat.reduceLeDiff, Nat.reduceEqDiff, Nat.reduceBEq, ↓reduceIte, reduceCtorEq, fA, ei, bs, List.map_append, List.length_append, mkR]
      try exact ⟨rfl, rfl⟩
  obtain rfl : i = b.lines.length * 3 + 1 := by omega
  have p1 : (((b.lines.length * 3 + 1 : Nat) : Int) < ((b.lines.length * 3 + 1 : Nat) : Int)) = False := eq_false (by omega)
  have p1' : (b.lines.length * 3 + 1 < b.lines.length * 3 + 1) = False := eq_false c
  have eb : blotT b (b.lines.length * 3 + 1) = blotL b := rfl
  simp (maxSteps := 2000000) only [vcA, ↓vcP, ↓reduceIte, reduceCtorEq, Nat.reduceAdd, Nat.reduceMul, Nat.reduceSub, Nat.reduceLT, Nat.reduceLeDiff, Nat.reduceEqDiff, Nat.reduceBEq, Nat.reduceBNe, Nat.reduceGT, Nat.reduceDiv, Nat.reduceMod, Int.reduceAdd, Int.reduceSub, Int.reduceNeg, Int.reduceLT, Int.reduceLE, Int.reduceEq, Int.reduceToNat, fA, ml, p1, p1']
  refine hR _ (fin_of1 [some 72] ?_)
  simp (maxSteps := 2000000) only [enA, ↓enP, Nat.reduceAdd, Nat.reduceMul, Nat.reduceSub, Nat.reduceLT, Nat.reduceLeDiff, Nat.reduceEqDiff, Nat.reduceBEq, ↓reduceIte, reduceCtorEq, fA, eb]
theorem rblots_spec (b : Bl) (hl : b.lines.length ≤ 20) : SpecF Try.prog 31 [.agg [.sl 3 (b.lines.map lnR), .v (.int .i64 b.total)]] (.sl 2 ((blotL b).map mkR)) [] := (rblots0_spec b hl).frz
theorem read_spec (b : Bl) (hl : b.lines.length ≤ 20) : SpecF Try.prog 28 [.agg [.sl 3 (b.lines.map lnR), .v (.int .i64 b.total)]] (.v (.int .i64 (readErr b))) [] := by
  refine spec_go (N := 13) (rs := [.tmp 2]) (eq := eqs) rfl rfl fun_28 rfl (by kernel_rfl) (by kernel_rfl) (by simp) (by simp) (by simp) (by simp) fun R hR => ?_
  simp (maxSteps := 2000000) only [vcA, ↓vcP, ↓reduceIte, reduceCtorEq, Nat.reduceAdd, Nat.reduceMul, Nat.reduceSub, Nat.reduceLT, Nat.reduceLeDiff, Nat.reduceEqDiff, Nat.reduceBEq, Nat.reduceBNe, Nat.reduceGT, Nat.reduceDiv, Nat.reduceMod, Int.reduceAdd, Int.reduceSub, Int.reduceNeg, Int.reduceLT, Int.reduceLE, Int.reduceEq, Int.reduceToNat, fA]
  refine onF_data (rbill_spec b hl) ?_ ?_
  · simp (maxSteps := 2000000) only [okA, ↓okP, Nat.reduceAdd, Nat.reduceMul, Nat.reduceSub, Nat.reduceLT, Nat.reduceLeDiff, Nat.reduceEqDiff, Nat.reduceBEq, ↓reduceIte, reduceCtorEq]
  by_cases h0 : billErr b = 0
  · have g0 : ((0 : Int) != 0) = false := rfl
    have bl : (blotL b).length ≤ b.lines.length * 3 + 1 := blotT_len b _
    rw [h0]
    simp (maxSteps := 2000000) only [vcA, ↓vcP, ↓reduceIte, reduceCtorEq, Nat.reduceAdd, Nat.reduceMul, Nat.reduceSub, Nat.reduceLT, Nat.reduceLeDiff, Nat.reduceEqDiff, Nat.reduceBEq, Nat.reduceBNe, Nat.reduceGT, Nat.reduceDiv, Nat.reduceMod, Int.reduceAdd, Int.reduceSub, Int.reduceNeg, Int.reduceLT, Int.reduceLE, Int.reduceEq, Int.reduceToNat, fA, g0]
    refine onF_data (rblots_spec b hl) ?_ ?_
    · simp (maxSteps := 2000000) only [okA, ↓okP, Nat.reduceAdd, Nat.reduceMul, Nat.reduceSub, Nat.reduceLT, Nat.reduceLeDiff, Nat.reduceEqDiff, Nat.reduceBEq, ↓reduceIte, reduceCtorEq]
    by_cases h1 : blotL b = []
    · have e : readErr b = 0 := by unfold readErr; rw [if_pos h0, if_pos h1]
      have q1 : (((blotL b).length : Int) > 0) = False := eq_false (by rw [h1]; decide)
      simp (maxSteps := 2000000) only [vcA, ↓vcP, ↓reduceIte, reduceCtorEq, Nat.reduceAdd, Nat.reduceMul, Nat.reduceSub, Nat.reduceLT, Nat.reduceLeDiff, Nat.reduceEqDiff, Nat.reduceBEq, Nat.reduceBNe, Nat.reduceGT, Nat.reduceDiv, Nat.reduceMod, Int.reduceAdd, Int.reduceSub, Int.reduceNeg, Int.reduceLT, Int.reduceLE, Int.reduceEq, Int.reduceToNat, fA, q1]
      refine hR _ (fin_of0 ?_)
      simp (maxSteps := 2000000) only [enA, ↓enP, Nat.reduceAdd, Nat.reduceMul, Nat.reduceSub, Nat.reduceLT, Nat.reduceLeDiff, Nat.reduceEqDiff, Nat.reduceBEq, ↓reduceIte, reduceCtorEq, fA, e]
    · have e : readErr b = 9 := by unfold readErr; rw [if_pos h0, if_neg h1]
      have hp : 0 < (blotL b).length := List.length_pos_iff.2 h1
      have q1 : (((blotL b).length : Int) > 0) = True := eq_true (by omega)
      simp (maxSteps := 2000000) only [vcA, ↓vcP, ↓reduceIte, reduceCtorEq, Nat.reduceAdd, Nat.reduceMul, Nat.reduceSub, Nat.reduceLT, Nat.reduceLeDiff, Nat.reduceEqDiff, Nat.reduceBEq, Nat.reduceBNe, Nat.reduceGT, Nat.reduceDiv, Nat.reduceMod, Int.reduceAdd, Int.reduceSub, Int.reduceNeg, Int.reduceLT, Int.reduceLE, Int.reduceEq, Int.reduceToNat, fA, q1]
      refine hR _ (fin_of0 ?_)
      simp (maxSteps := 2000000) only [enA, ↓enP, Nat.reduceAdd, Nat.reduceMul, Nat.reduceSub, Nat.reduceLT, Nat.reduceLeDiff, Nat.reduceEqDiff, Nat.reduceBEq, ↓reduceIte, reduceCtorEq, fA, e]
  · have g0 : (billErr b != 0) = true := by simpa using h0
    have e : readErr b = billErr b := if_neg h0
    simp (maxSteps := 2000000) only [vcA, ↓vcP, ↓reduceIte, reduceCtorEq, Nat.reduceAdd, Nat.reduceMul, Nat.reduceSub, Nat.reduceLT, Nat.reduceLeDiff, Nat.reduceEqDiff, Nat.reduceBEq, Nat.reduceBNe, Nat.reduceGT, Nat.reduceDiv, Nat.reduceMod, Int.reduceAdd, Int.reduceSub, Int.reduceNeg, Int.reduceLT, Int.reduceLE, Int.reduceEq, Int.reduceToNat, fA, g0]
    refine hR _ (fin_of0 ?_)
    simp (maxSteps := 2000000) only [enA, ↓enP, Nat.reduceAdd, Nat.reduceMul, Nat.reduceSub, Nat.reduceLT, Nat.reduceLeDiff, Nat.reduceEqDiff, Nat.reduceBEq, ↓reduceIte, reduceCtorEq, fA, e]
theorem rfaults0_spec (b : Bl) (hb : b.Sm) : SpecF Try.prog 29 [.agg [.sl 3 (b.lines.map lnR), .v (.int .i64 b.total)]] (.ob 0 (faultL b).length) [.row 3 1 ((faultL b).map iR) false] := by
  have hl := hb.len
  refine spec_go (N := 47) (rs := [.tmp 2]) (eq := eqs) rfl rfl fun_29 rfl (by kernel_rfl) (by kernel_rfl) (by simp) (by simp) (by simp) (by simp) fun R hR => ?_
  simp (maxSteps := 2000000) only [vcA, ↓vcP, ↓reduceIte, reduceCtorEq, Nat.reduceAdd, Nat.reduceMul, Nat.reduceSub, Nat.reduceLT, Nat.reduceLeDiff, Nat.reduceEqDiff, Nat.reduceBEq, Nat.reduceBNe, Nat.reduceGT, Nat.reduceDiv, Nat.reduceMod, Int.reduceAdd, Int.reduceSub, Int.reduceNeg, Int.reduceLT, Int.reduceLE, Int.reduceEq, Int.reduceToNat, fA]
  refine goC_loop (α := {i : Nat // i ≤ b.lines.length}) (fun x => ⟨[(1, .ptr 8 0), (3, .ob 56 (faultT b x.1).length), (4, .v (.int .i64 (sumA b.lines x.1))), (5, .v (.int .i64 x.1))], [(8, .box 51 [.sl 3 (b.lines.map lnR), .v (.int .i64 b.total)]), (56, .row 3 1 ((faultT b x.1).map iR) false)]⟩) (fun x => b.lines.length - x.1) ⟨0, by omega⟩ [some 24] ?_ ?_
  · simp (maxSteps := 2000000) only [enA, ↓enP, Nat.reduceAdd, Nat.reduceMul, Nat.reduceSub, Nat.reduceLT, Nat.reduceLeDiff, Nat.reduceEqDiff, Nat.reduceBEq, ↓reduceIte, reduceCtorEq, fA, faultT, sumA]
    exact ⟨⟨rfl, rfl⟩, rfl⟩
  intro x B hB
  obtain ⟨i, hi⟩ := x
  simp only at hB ⊢
  have fl := faultT_len b i
  have sb := sumA_bd hb i hi
  by_cases c : i < b.lines.length
  · have p1 : ((i : Int) < (b.lines.length : Int)) = True := eq_true (by omega)
    have p1' : (i < b.lines.length) = True := eq_true c
    have ei : IntKind.i64.wrap ((i : Int) + 1) = ((i + 1 : Nat) : Int) := wrap_id (by omega) (by omega)
    have hx := hb.ln _ (nth_mem (l := b.lines) (i := i) c)
    have hm := mul_bd hx.1 hx.2.1
    have w1 : IntKind.i64.wrap ((nth b.lines i).many * (nth b.lines i).each) = (nth b.lines i).many * (nth b.lines i).each := wrap_id (by omega) (by omega)
    have w2 : IntKind.i64.wrap (sumA b.lines i + (nth b.lines i).amount) = sumA b.lines (i + 1) := by rw [wrap_id (by omega) (by omega)]; rfl
    have fs := faultT_succ b i
    cases h1 : wrongL (nth b.lines i) with
    | false =>
      rw [h1, if_neg (by simp), List.append_nil] at fs
      have q : ((nth b.lines i).many * (nth b.lines i).each != (nth b.lines i).amount) = false := h1
      simp (maxSteps := 2000000) only [vcA, ↓vcP, ↓reduceIte, reduceCtorEq, Nat.reduceAdd, Nat.reduceMul, Nat.reduceSub, Nat.reduceLT, Nat.reduceLeDiff, Nat.reduceEqDiff, Nat.reduceBEq, Nat.reduceBNe, Nat.reduceGT, Nat.reduceDiv, Nat.reduceMod, Int.reduceAdd, Int.reduceSub, Int.reduceNeg, Int.reduceLT, Int.reduceLE, Int.reduceEq, Int.reduceToNat, fA, p1, p1', w1, w2, q, lnR]
      refine hB _ ⟨i + 1, by omega⟩ [some 56] (by simp only; omega) rfl ?_
      simp (maxSteps := 2000000) only [enA, ↓enP, Nat.reduceAdd, Nat.reduceMul, Nat.reduceSub, Nat.reduceLT, Nat.reduceLeDiff, Nat.reduceEqDiff, Nat.reduceBEq, ↓reduceIte, reduceCtorEq, fA, ei, fs]
    | true =>
      rw [h1, if_pos rfl] at fs
      have q : ((nth b.lines i).many * (nth b.lines i).each != (nth b.lines i).amount) = true := h1
      simp (maxSteps := 2000000) only [vcA, ↓vcP, ↓reduceIte, reduceCtorEq, Nat.reduceAdd, Nat.reduceMul, Nat.reduceSub, Nat.reduceLT, Nat.reduceLeDiff, Nat.reduceEqDiff, Nat.reduceBEq, Nat.reduceBNe, Nat.reduceGT, Nat.reduceDiv, Nat.reduceMod, Int.reduceAdd, Int.reduceSub, Int.reduceNeg, Int.reduceLT, Int.reduceLE, Int.reduceEq, Int.reduceToNat, fA, p1, p1', w1, w2, q, lnR]
      refine ⟨⟨by omega, by simp only [maxLen]; omega⟩, fun _ => ?_⟩
      refine hB _ ⟨i + 1, by omega⟩ [some 272] (by simp only; omega) rfl ?_
      simp (maxSteps := 2000000) only [enA, ↓enP, Nat.reduceAdd, Nat.reduceMul, Nat.reduceSub, Nat.reduceLT, Nat.reduceLeDiff, Nat.reduceEqDiff, Nat.reduceBEq, ↓reduceIte, reduceCtorEq, fA, ei, fs, List.map_append, List.length_append, iR]
      try exact ⟨rfl, rfl⟩
  obtain rfl : i = b.lines.length := by omega
  have p1 : ((b.lines.length : Int) < (b.lines.length : Int)) = False := eq_false (by omega)
  have p1' : (b.lines.length < b.lines.length) = False := eq_false c
  by_cases h2 : sumA b.lines b.lines.length ≠ b.total
  · have e : faultL b = faultT b b.lines.length ++ [(b.lines.length : Int)] := by unfold faultL; rw [if_pos h2]
    have q : (sumA b.lines b.lines.length != b.total) = true := by simpa using h2
    simp (maxSteps := 2000000) only [vcA, ↓vcP, ↓reduceIte, reduceCtorEq, Nat.reduceAdd, Nat.reduceMul, Nat.reduceSub, Nat.reduceLT, Nat.reduceLeDiff, Nat.reduceEqDiff, Nat.reduceBEq, Nat.reduceBNe, Nat.reduceGT, Nat.reduceDiv, Nat.reduceMod, Int.reduceAdd, Int.reduceSub, Int.reduceNeg, Int.reduceLT, Int.reduceLE, Int.reduceEq, Int.reduceToNat, fA, p1, p1', q]
    refine ⟨⟨by omega, by simp only [maxLen]; omega⟩, fun _ => ?_⟩
    refine hR _ (fin_of1 [some 200] ?_)
    simp (maxSteps := 2000000) only [enA, ↓enP, Nat.reduceAdd, Nat.reduceMul, Nat.reduceSub, Nat.reduceLT, Nat.reduceLeDiff, Nat.reduceEqDiff, Nat.reduceBEq, ↓reduceIte, reduceCtorEq, fA, e, List.map_append, List.length_append, iR]
    try exact ⟨rfl, rfl⟩
  · have e : faultL b = faultT b b.lines.length := by unfold faultL; rw [if_neg h2, List.append_nil]
    have q : (sumA b.lines b.lines.length != b.total) = false := by simpa using h2
    simp (maxSteps := 2000000) only [vcA, ↓vcP, ↓reduceIte, reduceCtorEq, Nat.reduceAdd, Nat.reduceMul, Nat.reduceSub, Nat.reduceLT, Nat.reduceLeDiff, Nat.reduceEqDiff, Nat.reduceBEq, Nat.reduceBNe, Nat.reduceGT, Nat.reduceDiv, Nat.reduceMod, Int.reduceAdd, Int.reduceSub, Int.reduceNeg, Int.reduceLT, Int.reduceLE, Int.reduceEq, Int.reduceToNat, fA, p1, p1', q]
    refine hR _ (fin_of1 [some 56] ?_)
    simp (maxSteps := 2000000) only [enA, ↓enP, Nat.reduceAdd, Nat.reduceMul, Nat.reduceSub, Nat.reduceLT, Nat.reduceLeDiff, Nat.reduceEqDiff, Nat.reduceBEq, ↓reduceIte, reduceCtorEq, fA, e]
theorem rfaults_spec (b : Bl) (hb : b.Sm) : SpecF Try.prog 29 [.agg [.sl 3 (b.lines.map lnR), .v (.int .i64 b.total)]] (.sl 1 ((faultL b).map iR)) [] := (rfaults0_spec b hb).frz
end Go.Proofs.Ytmjnlcfnaoloeaa.Ab.T12
