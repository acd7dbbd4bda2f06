/- The document's bills: copies, comparisons, marks, numbers. -/
import Derived.Test.YtmjnlcfnaoloeaaZH3
namespace Go.Proofs.Ytmjnlcfnaoloeaa.Ab.T12
open Go Go.RowKit
set_option linter.unusedVariables false
set_option linter.unusedSimpArgs false
set_option maxRecDepth 100000
theorem rcopy0_spec (b : Bl) (hl : b.lines.length ≤ 20) : SpecG Try.prog 22 [.agg [.sl 3 (b.lines.map lnR), .v (.int .i64 b.total)]] [] (.agg [.ob 0 b.lines.length, .v (.int .i64 b.total)]) [.row 94 3 (b.lines.map lnR) false] := by
  refine spec_go (N := 10) (rs := [.cell 2 51]) (eq := eqs) rfl rfl fun_22 rfl (by kernel_rfl) (by kernel_rfl) (by simp) (by simp) (by simp) (by simp) fun R hR => ?_
  simp (maxSteps := 2000000) only [vcA, ↓vcP, ↓reduceIte, reduceCtorEq, Nat.reduceAdd, Nat.reduceMul, Nat.reduceSub, Nat.reduceLT, Nat.reduceLeDiff, Nat.reduceEqDiff, Nat.reduceBEq, Nat.reduceBNe, Nat.reduceGT, Nat.reduceDiv, Nat.reduceMod, Int.reduceAdd, Int.reduceSub, Int.reduceNeg, Int.reduceLT, Int.reduceLE, Int.reduceEq, Int.reduceToNat, fA]
  refine ⟨⟨by omega, by simp only [maxLen]; omega⟩, fun _ => ⟨by kernel_rfl, ?_⟩⟩
  try repeat (first | refine ⟨by kernel_rfl, ?_⟩ | refine ⟨⟨by kernel_rfl, by kernel_rfl⟩, ?_⟩ | refine ⟨⟨by kernel_rfl, by kernel_rfl, by kernel_rfl⟩, ?_⟩ | refine ⟨⟨by kernel_rfl, by kernel_rfl, by kernel_rfl, by kernel_rfl⟩, ?_⟩ | refine ⟨⟨by kernel_rfl, by kernel_rfl, by kernel_rfl, by kernel_rfl, by kernel_rfl⟩, ?_⟩ | refine ⟨⟨by kernel_rfl, by kernel_rfl, by kernel_rfl, by kernel_rfl, by kernel_rfl, by kernel_rfl⟩, ?_⟩ | refine ⟨⟨by kernel_rfl, by kernel_rfl, by kernel_rfl, by kernel_rfl, by kernel_rfl, by kernel_rfl, by kernel_rfl⟩, ?_⟩ | refine ⟨⟨by kernel_rfl, by kernel_rfl, by kernel_rfl, by kernel_rfl, by kernel_rfl, by kernel_rfl, by kernel_rfl, by kernel_rfl⟩, ?_⟩ | refine ⟨⟨by kernel_rfl, by kernel_rfl, by kernel_rfl, by kernel_rfl, by kernel_rfl, by kernel_rfl, by kernel_rfl, by kernel_rfl, by kernel_rfl⟩, ?_⟩ | refine ⟨⟨by kernel_rfl, by kernel_rfl, by kernel_rfl, by kernel_rfl, by kernel_rfl, by kernel_rfl, by kernel_rfl, by kernel_rfl, by kernel_rfl, by kernel_rfl⟩, ?_⟩ | refine ⟨⟨by kernel_rfl, by kernel_rfl, by kernel_rfl, by kernel_rfl, by kernel_rfl, by kernel_rfl, by kernel_rfl, by kernel_rfl, by kernel_rfl, by kernel_rfl, by kernel_rfl⟩, ?_⟩ | refine ⟨⟨by kernel_rfl, by kernel_rfl, by kernel_rfl, by kernel_rfl, by kernel_rfl, by kernel_rfl, by kernel_rfl, by kernel_rfl, by kernel_rfl, by kernel_rfl, by kernel_rfl, by kernel_rfl⟩, ?_⟩ | refine ⟨⟨by kernel_rfl, by kernel_rfl, by kernel_rfl, by kernel_rfl, by kernel_rfl, by kernel_rfl, by kernel_rfl, by kernel_rfl, by kernel_rfl, by kernel_rfl, by kernel_rfl, by kernel_rfl, by kernel_rfl⟩, ?_⟩)
  refine hR _ (fin_of1 [some 48] ?_)
  simp (maxSteps := 2000000) only [enA, ↓enP, Nat.reduceAdd, Nat.reduceMul, Nat.reduceSub, Nat.reduceLT, Nat.reduceLeDiff, Nat.reduceEqDiff, Nat.reduceBEq, ↓reduceIte, reduceCtorEq, fA]
theorem rcopy_spec (b : Bl) (hl : b.lines.length ≤ 20) : SpecF Try.prog 22 [.agg [.sl 3 (b.lines.map lnR), .v (.int .i64 b.total)]] (.agg [.sl 3 (b.lines.map lnR), .v (.int .i64 b.total)]) [] := (rcopy0_spec b hl).frz
theorem same_spec (b : Bl) (hl : b.lines.length ≤ 20) : SpecF Try.prog 26 [.agg [.sl 3 (b.lines.map lnR), .v (.int .i64 b.total)], .agg [.sl 3 (b.lines.map lnR), .v (.int .i64 b.total)]] (.v (.bool true)) [] := by
  have be : ∀ n : Int, (n == n) = true := fun n => by simp
  refine spec_go (N := 38) (rs := [.tmp 4]) (eq := eqs) rfl rfl fun_26 rfl (by kernel_rfl) (by kernel_rfl) (by simp) (by simp) (by simp) (by simp) fun R hR => ?_
  simp (maxSteps := 2000000) only [vcA, ↓vcP, ↓reduceIte, reduceCtorEq, Nat.reduceAdd, Nat.reduceMul, Nat.reduceSub, Nat.reduceLT, Nat.reduceLeDiff, Nat.reduceEqDiff, Nat.reduceBEq, Nat.reduceBNe, Nat.reduceGT, Nat.reduceDiv, Nat.reduceMod, Int.reduceAdd, Int.reduceSub, Int.reduceNeg, Int.reduceLT, Int.reduceLE, Int.reduceEq, Int.reduceToNat, fA, be]
  refine goC_loop (α := {i : Nat // i ≤ b.lines.length}) (fun x => ⟨[(2, .ptr 8 0), (3, .ptr 16 0), (5, .v (.int .i64 x.1))], [(8, .box 51 [.sl 3 (b.lines.map lnR), .v (.int .i64 b.total)]), (16, .box 51 [.sl 3 (b.lines.map lnR), .v (.int .i64 b.total)])]⟩) (fun x => b.lines.length - x.1) ⟨0, by omega⟩ [] ?_ ?_
  · simp (maxSteps := 2000000) only [enA, ↓enP, Nat.reduceAdd, Nat.reduceMul, Nat.reduceSub, Nat.reduceLT, Nat.reduceLeDiff, Nat.reduceEqDiff, Nat.reduceBEq, ↓reduceIte, reduceCtorEq, fA]
    rfl
  intro x B hB
  obtain ⟨i, hi⟩ := x
  simp only at hB ⊢
  by_cases c : i < b.lines.length
  · have p1 : ((i : Int) < (b.lines.length : Int)) = True := eq_true (by omega)
    have p1' : (i < b.lines.length) = True := eq_true c
    have ei : IntKind.i64.wrap ((i : Int) + 1) = ((i + 1 : Nat) : Int) := wrap_id (by omega) (by omega)
    simp (maxSteps := 2000000) only [vcA, ↓vcP, ↓reduceIte, reduceCtorEq, Nat.reduceAdd, Nat.reduceMul, Nat.reduceSub, Nat.reduceLT, Nat.reduceLeDiff, Nat.reduceEqDiff, Nat.reduceBEq, Nat.reduceBNe, Nat.reduceGT, Nat.reduceDiv, Nat.reduceMod, Int.reduceAdd, Int.reduceSub, Int.reduceNeg, Int.reduceLT, Int.reduceLE, Int.reduceEq, Int.reduceToNat, fA, p1, p1', be, lnR, eqs, eqt_line, all3, kO3]
    refine hB _ ⟨i + 1, by omega⟩ [] (by simp only; omega) rfl ?_
    simp (maxSteps := 2000000) only [enA, ↓enP, Nat.reduceAdd, Nat.reduceMul, Nat.reduceSub, Nat.reduceLT, Nat.reduceLeDiff, Nat.reduceEqDiff, Nat.reduceBEq, ↓reduceIte, reduceCtorEq, fA, ei]
  · have p1 : ((i : Int) < (b.lines.length : Int)) = False := eq_false (by omega)
    have p1' : (i < b.lines.length) = False := eq_false c
    simp (maxSteps := 2000000) only [vcA, ↓vcP, ↓reduceIte, reduceCtorEq, Nat.reduceAdd, Nat.reduceMul, Nat.reduceSub, Nat.reduceLT, Nat.reduceLeDiff, Nat.reduceEqDiff, Nat.reduceBEq, Nat.reduceBNe, Nat.reduceGT, Nat.reduceDiv, Nat.reduceMod, Int.reduceAdd, Int.reduceSub, Int.reduceNeg, Int.reduceLT, Int.reduceLE, Int.reduceEq, Int.reduceToNat, fA, p1, p1']
    refine hR _ (fin_of0 ?_)
    simp (maxSteps := 2000000) only [enA, ↓enP, Nat.reduceAdd, Nat.reduceMul, Nat.reduceSub, Nat.reduceLT, Nat.reduceLeDiff, Nat.reduceEqDiff, Nat.reduceBEq, ↓reduceIte, reduceCtorEq, fA]
/-- The first marks of a bill. -/
def allM (n i : Nat) : List (Int × Int) := (List.range i).map (markAt n)
theorem allM_len (n i : Nat) : (allM n i).length = i := by simp [allM]
theorem allM_succ (n i : Nat) : allM n (i + 1) = allM n i ++ [markAt n i] := by simp [allM, List.range_succ]
theorem allM_nth {n i j : Nat} (h : j < i) : nth (allM n i) j = markAt n j := by
  unfold nth allM
  simp [List.getD_eq_getElem?_getD, h]
theorem markAt_line {n i f : Nat} (hi : i < n) (hf : f < 3) : markAt n (i * 3 + f) = ((i : Int), ((f + 1 : Nat) : Int)) := by
  rw [markAt_lt (by omega), show (i * 3 + f) / 3 = i by omega, show 1 + (i * 3 + f) % 3 = f + 1 by omega]
theorem marks0_spec (b : Bl) (hl : b.lines.length ≤ 20) : SpecF Try.prog 55 [.agg [.sl 3 (b.lines.map lnR), .v (.int .i64 b.total)]] (.ob 0 (allM b.lines.length (b.lines.length * 3 + 1)).length) [.row 63 2 ((allM b.lines.length (b.lines.length * 3 + 1)).map mkR) false] := by
  have ml := allM_len b.lines.length
  refine spec_go (N := 31) (rs := [.tmp 2]) (eq := eqs) rfl rfl fun_55 rfl (by kernel_rfl) (by kernel_rfl) (by simp) (by simp) (by simp) (by simp) fun R hR => ?_
  simp (maxSteps := 2000000) only [vcA, ↓vcP, ↓reduceIte, reduceCtorEq, Nat.reduceAdd, Nat.reduceMul, Nat.reduceSub, Nat.reduceLT, Nat.reduceLeDiff, Nat.reduceEqDiff, Nat.reduceBEq, Nat.reduceBNe, Nat.reduceGT, Nat.reduceDiv, Nat.reduceMod, Int.reduceAdd, Int.reduceSub, Int.reduceNeg, Int.reduceLT, Int.reduceLE, Int.reduceEq, Int.reduceToNat, fA]
  refine goC_loop (α := {i : Nat // i ≤ b.lines.length}) (fun x => ⟨[(1, .ptr 8 0), (3, .ob 48 (x.1 * 3)), (4, .v (.int .i64 x.1))], [(8, .box 51 [.sl 3 (b.lines.map lnR), .v (.int .i64 b.total)]), (48, .row 63 2 ((allM b.lines.length (x.1 * 3)).map mkR) false)]⟩) (fun x => b.lines.length - x.1) ⟨0, by omega⟩ [some 24] ?_ ?_
  · simp (maxSteps := 2000000) only [enA, ↓enP, Nat.reduceAdd, Nat.reduceMul, Nat.reduceSub, Nat.reduceLT, Nat.reduceLeDiff, Nat.reduceEqDiff, Nat.reduceBEq, ↓reduceIte, reduceCtorEq, fA, allM]
    try simp [allM]
  intro x B hB
  obtain ⟨i, hi⟩ := x
  simp only at hB ⊢
  by_cases c : i < b.lines.length
  · have p1 : ((i : Int) < (b.lines.length : Int)) = True := eq_true (by omega)
    have p1' : (i < b.lines.length) = True := eq_true c
    have ei : IntKind.i64.wrap ((i : Int) + 1) = ((i + 1 : Nat) : Int) := wrap_id (by omega) (by omega)
    simp (maxSteps := 2000000) only [vcA, ↓vcP, ↓reduceIte, reduceCtorEq, Nat.reduceAdd, Nat.reduceMul, Nat.reduceSub, Nat.reduceLT, Nat.reduceLeDiff, Nat.reduceEqDiff, Nat.reduceBEq, Nat.reduceBNe, Nat.reduceGT, Nat.reduceDiv, Nat.reduceMod, Int.reduceAdd, Int.reduceSub, Int.reduceNeg, Int.reduceLT, Int.reduceLE, Int.reduceEq, Int.reduceToNat, fA, p1, p1']
    refine goC_loop (α := {f : Nat // f ≤ 3}) (fun x => ⟨[(1, .ptr 8 0), (3, .ob 128 (i * 3 + x.1)), (4, .v (.int .i64 i)), (5, .v (.int .i64 (x.1 + 1 : Nat)))], [(8, .box 51 [.sl 3 (b.lines.map lnR), .v (.int .i64 b.total)]), (128, .row 63 2 ((allM b.lines.length (i * 3 + x.1)).map mkR) false)]⟩) (fun x => 3 - x.1) ⟨0, by omega⟩ [some 48] ?_ ?_
    · simp (maxSteps := 2000000) only [enA, ↓enP, Nat.reduceAdd, Nat.reduceMul, Nat.reduceSub, Nat.reduceLT, Nat.reduceLeDiff, Nat.reduceEqDiff, Nat.reduceBEq, ↓reduceIte, reduceCtorEq, fA]
      exact ⟨⟨rfl, rfl⟩, rfl⟩
    intro x B2 hB2
    obtain ⟨f, hf⟩ := x
    simp only at hB2 ⊢
    by_cases c2 : f < 3
    · have p2 : (((f + 1 : Nat) : Int) ≤ 3) = True := eq_true (by omega)
      have ef : IntKind.i64.wrap (((f + 1 : Nat) : Int) + 1) = ((f + 1 + 1 : Nat) : Int) := wrap_id (by omega) (by omega)
      have em := markAt_line c c2
      have es := allM_succ b.lines.length (i * 3 + f)
      rw [em] at es
      simp (maxSteps := 2000000) only [vcA, ↓vcP, ↓reduceIte, reduceCtorEq, Nat.reduceAdd, Nat.reduceMul, Nat.reduceSub, Nat.reduceLT, Nat.reduceLeDiff, Nat.reduceEqDiff, Nat.reduceBEq, Nat.reduceBNe, Nat.reduceGT, Nat.reduceDiv, Nat.reduceMod, Int.reduceAdd, Int.reduceSub, Int.reduceNeg, Int.reduceLT, Int.reduceLE, Int.reduceEq, Int.reduceToNat, fA, p2, ml]
      refine ⟨⟨by omega, by simp only [maxLen]; omega⟩, fun _ => ?_⟩
      refine hB2 _ ⟨f + 1, by omega⟩ [some 216] (by simp only; omega) rfl ?_
      simp (maxSteps := 2000000) only [enA, ↓enP, Nat.reduceAdd, Nat.reduceMul, Nat.reduceSub, Nat.reduceLT, Nat.reduceLeDiff, Nat.reduceEqDiff, Nat.reduceBEq, ↓reduceIte, reduceCtorEq, fA, ef]
      rw [show i * 3 + (f + 1) = i * 3 + f + 1 by omega, es, List.map_append]
      first | exact ⟨rfl, rfl⟩ | rfl
    obtain rfl : f = 3 := by omega
    have p2 : (((3 + 1 : Nat) : Int) ≤ 3) = False := eq_false (by omega)
    have p2' : ((4 : Int) ≤ 3) = False := eq_false (by omega)
    have e3 : i * 3 + 3 = (i + 1) * 3 := by omega
    simp (maxSteps := 2000000) only [vcA, ↓vcP, ↓reduceIte, reduceCtorEq, Nat.reduceAdd, Nat.reduceMul, Nat.reduceSub, Nat.reduceLT, Nat.reduceLeDiff, Nat.reduceEqDiff, Nat.reduceBEq, Nat.reduceBNe, Nat.reduceGT, Nat.reduceDiv, Nat.reduceMod, Int.reduceAdd, Int.reduceSub, Int.reduceNeg, Int.reduceLT, Int.reduceLE, Int.reduceEq, Int.reduceToNat, fA, p2, p2']
    refine hB _ ⟨i + 1, by omega⟩ [some 128] (by simp only; omega) rfl ?_
    simp (maxSteps := 2000000) only [enA, ↓enP, Nat.reduceAdd, Nat.reduceMul, Nat.reduceSub, Nat.reduceLT, Nat.reduceLeDiff, Nat.reduceEqDiff, Nat.reduceBEq, ↓reduceIte, reduceCtorEq, fA, ei, e3]
    try rfl
  obtain rfl : i = b.lines.length := by omega
  have p1 : ((b.lines.length : Int) < (b.lines.length : Int)) = False := eq_false (by omega)
  have p1' : (b.lines.length < b.lines.length) = False := eq_false c
  have es := allM_succ b.lines.length (b.lines.length * 3)
  rw [markAt_end] at es
  simp (maxSteps := 2000000) only [vcA, ↓vcP, ↓reduceIte, reduceCtorEq, Nat.reduceAdd, Nat.reduceMul, Nat.reduceSub, Nat.reduceLT, Nat.reduceLeDiff, Nat.reduceEqDiff, Nat.reduceBEq, Nat.reduceBNe, Nat.reduceGT, Nat.reduceDiv, Nat.reduceMod, Int.reduceAdd, Int.reduceSub, Int.reduceNeg, Int.reduceLT, Int.reduceLE, Int.reduceEq, Int.reduceToNat, fA, p1, p1', ml]
  refine ⟨⟨by omega, by simp only [maxLen]; omega⟩, fun _ => ?_⟩
  refine hR _ (fin_of1 [some 168] ?_)
  simp (maxSteps := 2000000) only [enA, ↓enP, Nat.reduceAdd, Nat.reduceMul, Nat.reduceSub, Nat.reduceLT, Nat.reduceLeDiff, Nat.reduceEqDiff, Nat.reduceBEq, ↓reduceIte, reduceCtorEq, fA, ml]
  rw [es, List.map_append]
  first | exact ⟨rfl, rfl⟩ | rfl
theorem marks_spec (b : Bl) (hl : b.lines.length ≤ 20) : SpecF Try.prog 55 [.agg [.sl 3 (b.lines.map lnR), .v (.int .i64 b.total)]] (.sl 2 ((allM b.lines.length (b.lines.length * 3 + 1)).map mkR)) [] := (marks0_spec b hl).frz
theorem get_spec (b : Bl) (i : Nat) (hl : b.lines.length ≤ 20) (hi : i ≤ b.lines.length * 3) : SpecF Try.prog 35 [.agg [.sl 3 (b.lines.map lnR), .v (.int .i64 b.total)], .agg [.v (.int .i64 (markAt b.lines.length i).1), .v (.int .i64 (markAt b.lines.length i).2)]] (.v (.int .i64 (numAt b i))) [] := by
  refine spec_go (N := 27) (rs := [.tmp 4]) (eq := eqs) rfl rfl fun_35 rfl (by kernel_rfl) (by kernel_rfl) (by simp) (by simp) (by simp) (by simp) fun R hR => ?_
  by_cases c : i < b.lines.length * 3
  · have e1 : (markAt b.lines.length i).1 = ((i / 3 : Nat) : Int) := by rw [markAt_lt c]
    have q1 : (((i / 3 : Nat) : Int) < (b.lines.length : Int)) = True := eq_true (by omega)
    have q1' : (i / 3 < b.lines.length) = True := eq_true (by omega)
    have e3 := numAt_lt c
    rcases (by omega : i % 3 = 0 ∨ i % 3 = 1 ∨ i % 3 = 2) with h | h | h
    · have e2 : (markAt b.lines.length i).2 = 1 := by rw [markAt_lt c, h]; rfl
      have e4 : numAt b i = (nth b.lines (i / 3)).many := by rw [e3, h]; rfl
      have g1 : ((1 : Int) == 4) = false := rfl
      rw [e1, e2]
      simp (maxSteps := 2000000) only [vcA, ↓vcP, ↓reduceIte, reduceCtorEq, Nat.reduceAdd, Nat.reduceMul, Nat.reduceSub, Nat.reduceLT, Nat.reduceLeDiff, Nat.reduceEqDiff, Nat.reduceBEq, Nat.reduceBNe, Nat.reduceGT, Nat.reduceDiv, Nat.reduceMod, Int.reduceAdd, Int.reduceSub, Int.reduceNeg, Int.reduceLT, Int.reduceLE, Int.reduceEq, Int.reduceToNat, fA, q1, q1', g1, lnR]
      refine hR _ (fin_of0 ?_)
      simp (maxSteps := 2000000) only [enA, ↓enP, Nat.reduceAdd, Nat.reduceMul, Nat.reduceSub, Nat.reduceLT, Nat.reduceLeDiff, Nat.reduceEqDiff, Nat.reduceBEq, ↓reduceIte, reduceCtorEq, fA, e4]
    · have e2 : (markAt b.lines.length i).2 = 2 := by rw [markAt_lt c, h]; rfl
      have e4 : numAt b i = (nth b.lines (i / 3)).each := by rw [e3, h]; rfl
      have g1 : ((2 : Int) == 4) = false := rfl
      rw [e1, e2]
      simp (maxSteps := 2000000) only [vcA, ↓vcP, ↓reduceIte, reduceCtorEq, Nat.reduceAdd, Nat.reduceMul, Nat.reduceSub, Nat.reduceLT, Nat.reduceLeDiff, Nat.reduceEqDiff, Nat.reduceBEq, Nat.reduceBNe, Nat.reduceGT, Nat.reduceDiv, Nat.reduceMod, Int.reduceAdd, Int.reduceSub, Int.reduceNeg, Int.reduceLT, Int.reduceLE, Int.reduceEq, Int.reduceToNat, fA, q1, q1', g1, lnR]
      refine hR _ (fin_of0 ?_)
      simp (maxSteps := 2000000) only [enA, ↓enP, Nat.reduceAdd, Nat.reduceMul, Nat.reduceSub, Nat.reduceLT, Nat.reduceLeDiff, Nat.reduceEqDiff, Nat.reduceBEq, ↓reduceIte, reduceCtorEq, fA, e4]
    · have e2 : (markAt b.lines.length i).2 = 3 := by rw [markAt_lt c, h]; rfl
      have e4 : numAt b i = (nth b.lines (i / 3)).amount := by rw [e3, h]; rfl
      have g1 : ((3 : Int) == 4) = false := rfl
      rw [e1, e2]
      simp (maxSteps := 2000000) only [vcA, ↓vcP, ↓reduceIte, reduceCtorEq, Nat.reduceAdd, Nat.reduceMul, Nat.reduceSub, Nat.reduceLT, Nat.reduceLeDiff, Nat.reduceEqDiff, Nat.reduceBEq, Nat.reduceBNe, Nat.reduceGT, Nat.reduceDiv, Nat.reduceMod, Int.reduceAdd, Int.reduceSub, Int.reduceNeg, Int.reduceLT, Int.reduceLE, Int.reduceEq, Int.reduceToNat, fA, q1, q1', g1, lnR]
      refine hR _ (fin_of0 ?_)
      simp (maxSteps := 2000000) only [enA, ↓enP, Nat.reduceAdd, Nat.reduceMul, Nat.reduceSub, Nat.reduceLT, Nat.reduceLeDiff, Nat.reduceEqDiff, Nat.reduceBEq, ↓reduceIte, reduceCtorEq, fA, e4]
  · obtain rfl : i = b.lines.length * 3 := by omega
    have e2 : (markAt b.lines.length (b.lines.length * 3)).2 = 4 := by rw [markAt_end]
    have g1 : ((4 : Int) == 4) = true := rfl
    rw [e2]
    have e4 := numAt_end b
    simp (maxSteps := 2000000) only [vcA, ↓vcP, ↓reduceIte, reduceCtorEq, Nat.reduceAdd, Nat.reduceMul, Nat.reduceSub, Nat.reduceLT, Nat.reduceLeDiff, Nat.reduceEqDiff, Nat.reduceBEq, Nat.reduceBNe, Nat.reduceGT, Nat.reduceDiv, Nat.reduceMod, Int.reduceAdd, Int.reduceSub, Int.reduceNeg, Int.reduceLT, Int.reduceLE, Int.reduceEq, Int.reduceToNat, fA, g1]
    refine hR _ (fin_of0 ?_)
    simp (maxSteps := 2000000) only [enA, ↓enP, Nat.reduceAdd, Nat.reduceMul, Nat.reduceSub, Nat.reduceLT, Nat.reduceLeDiff, Nat.reduceEqDiff, Nat.reduceBEq, ↓reduceIte, reduceCtorEq, fA, e4]
theorem rmost_spec (n i : Nat) : SpecF Try.prog 56 [.v (.int .i64 (markAt n i).2)] (.v (.int .i64 (mostAt n i))) [] := by
  refine spec_go (N := 6) (rs := [.tmp 2]) (eq := eqs) rfl rfl fun_56 rfl (by kernel_rfl) (by kernel_rfl) (by simp) (by simp) (by simp) (by simp) fun R hR => ?_
  by_cases c : i < n * 3
  · rcases (by omega : i % 3 = 0 ∨ i % 3 = 1 ∨ i % 3 = 2) with h | h | h
    · have e2 : (markAt n i).2 = 1 := by rw [markAt_lt c, h]; rfl
      have e4 : mostAt n i = 50 := by rw [mostAt_lt c, h]; rfl
      rw [e2]
      simp (maxSteps := 2000000) only [vcA, ↓vcP, ↓reduceIte, reduceCtorEq, Nat.reduceAdd, Nat.reduceMul, Nat.reduceSub, Nat.reduceLT, Nat.reduceLeDiff, Nat.reduceEqDiff, Nat.reduceBEq, Nat.reduceBNe, Nat.reduceGT, Nat.reduceDiv, Nat.reduceMod, Int.reduceAdd, Int.reduceSub, Int.reduceNeg, Int.reduceLT, Int.reduceLE, Int.reduceEq, Int.reduceToNat, fA]
      refine hR _ (fin_of0 ?_)
      simp (maxSteps := 2000000) only [enA, ↓enP, Nat.reduceAdd, Nat.reduceMul, Nat.reduceSub, Nat.reduceLT, Nat.reduceLeDiff, Nat.reduceEqDiff, Nat.reduceBEq, ↓reduceIte, reduceCtorEq, fA, e4]
      try rfl
    · have e2 : (markAt n i).2 = 2 := by rw [markAt_lt c, h]; rfl
      have e4 : mostAt n i = 50 := by rw [mostAt_lt c, h]; rfl
      rw [e2]
      simp (maxSteps := 2000000) only [vcA, ↓vcP, ↓reduceIte, reduceCtorEq, Nat.reduceAdd, Nat.reduceMul, Nat.reduceSub, Nat.reduceLT, Nat.reduceLeDiff, Nat.reduceEqDiff, Nat.reduceBEq, Nat.reduceBNe, Nat.reduceGT, Nat.reduceDiv, Nat.reduceMod, Int.reduceAdd, Int.reduceSub, Int.reduceNeg, Int.reduceLT, Int.reduceLE, Int.reduceEq, Int.reduceToNat, fA]
      refine hR _ (fin_of0 ?_)
      simp (maxSteps := 2000000) only [enA, ↓enP, Nat.reduceAdd, Nat.reduceMul, Nat.reduceSub, Nat.reduceLT, Nat.reduceLeDiff, Nat.reduceEqDiff, Nat.reduceBEq, ↓reduceIte, reduceCtorEq, fA, e4]
      try rfl
    · have e2 : (markAt n i).2 = 3 := by rw [markAt_lt c, h]; rfl
      have e4 : mostAt n i = 2500 := by rw [mostAt_lt c, h]; rfl
      rw [e2]
      simp (maxSteps := 2000000) only [vcA, ↓vcP, ↓reduceIte, reduceCtorEq, Nat.reduceAdd, Nat.reduceMul, Nat.reduceSub, Nat.reduceLT, Nat.reduceLeDiff, Nat.reduceEqDiff, Nat.reduceBEq, Nat.reduceBNe, Nat.reduceGT, Nat.reduceDiv, Nat.reduceMod, Int.reduceAdd, Int.reduceSub, Int.reduceNeg, Int.reduceLT, Int.reduceLE, Int.reduceEq, Int.reduceToNat, fA]
      refine hR _ (fin_of0 ?_)
      simp (maxSteps := 2000000) only [enA, ↓enP, Nat.reduceAdd, Nat.reduceMul, Nat.reduceSub, Nat.reduceLT, Nat.reduceLeDiff, Nat.reduceEqDiff, Nat.reduceBEq, ↓reduceIte, reduceCtorEq, fA, e4]
      try rfl
  · have e2 : (markAt n i).2 = 4 := by unfold markAt; rw [if_neg c]
    have e4 : mostAt n i = 12500 := if_neg c
    rw [e2]
    simp (maxSteps := 2000000) only [vcA, ↓vcP, ↓reduceIte, reduceCtorEq, Nat.reduceAdd, Nat.reduceMul, Nat.reduceSub, Nat.reduceLT, Nat.reduceLeDiff, Nat.reduceEqDiff, Nat.reduceBEq, Nat.reduceBNe, Nat.reduceGT, Nat.reduceDiv, Nat.reduceMod, Int.reduceAdd, Int.reduceSub, Int.reduceNeg, Int.reduceLT, Int.reduceLE, Int.reduceEq, Int.reduceToNat, fA]
    refine hR _ (fin_of0 ?_)
    simp (maxSteps := 2000000) only [enA, ↓enP, Nat.reduceAdd, Nat.reduceMul, Nat.reduceSub, Nat.reduceLT, Nat.reduceLeDiff, Nat.reduceEqDiff, Nat.reduceBEq, ↓reduceIte, reduceCtorEq, fA, e4]
    try rfl
theorem with_spec (b : Bl) (i : Nat) (v : Int) (hl : b.lines.length ≤ 20) (hi : i ≤ b.lines.length * 3) : SpecF Try.prog 57 [.agg [.sl 3 (b.lines.map lnR), .v (.int .i64 b.total)], .agg [.v (.int .i64 (markAt b.lines.length i).1), .v (.int .i64 (markAt b.lines.length i).2)], .v (.int .i64 v)] (.agg [.sl 3 ((setN b i v).lines.map lnR), .v (.int .i64 (setN b i v).total)]) [] := by
  refine SpecG.frz (r := .agg [.ob 0 b.lines.length, .v (.int .i64 (setN b i v).total)]) (objs := [.row 94 3 ((setN b i v).lines.map lnR) false]) ?_
  refine spec_go (N := 42) (rs := [.cell 6 51]) (eq := eqs) rfl rfl fun_57 rfl (by kernel_rfl) (by kernel_rfl) (by simp) (by simp) (by simp) (by simp) fun R hR => ?_
  simp (maxSteps := 2000000) only [vcA, ↓vcP, ↓reduceIte, reduceCtorEq, Nat.reduceAdd, Nat.reduceMul, Nat.reduceSub, Nat.reduceLT, Nat.reduceLeDiff, Nat.reduceEqDiff, Nat.reduceBEq, Nat.reduceBNe, Nat.reduceGT, Nat.reduceDiv, Nat.reduceMod, Int.reduceAdd, Int.reduceSub, Int.reduceNeg, Int.reduceLT, Int.reduceLE, Int.reduceEq, Int.reduceToNat, fA]
  refine onF_call (rcopy0_spec b hl) [] [] [] ?_ ?_
  · simp (maxSteps := 2000000) only [okA, ↓okP, Nat.reduceAdd, Nat.reduceMul, Nat.reduceSub, Nat.reduceLT, Nat.reduceLeDiff, Nat.reduceEqDiff, Nat.reduceBEq, ↓reduceIte, reduceCtorEq]
  by_cases c : i < b.lines.length * 3
  · have e1 : (markAt b.lines.length i).1 = ((i / 3 : Nat) : Int) := by rw [markAt_lt c]
    have q1 : (((i / 3 : Nat) : Int) < (b.lines.length : Int)) = True := eq_true (by omega)
    have q1' : (i / 3 < b.lines.length) = True := eq_true (by omega)
    have hs := set_num c (numAt b i) v
    rw [setN_self hi] at hs
    have ht : (setN b i v).total = b.total := by rw [setN_lt c]
    rcases (by omega : i % 3 = 0 ∨ i % 3 = 1 ∨ i % 3 = 2) with h | h | h
    · have e2 : (markAt b.lines.length i).2 = 1 := by rw [markAt_lt c, h]; rfl
      have g1 : ((1 : Int) == 1) = true := rfl
      rw [h] at hs
      rw [e1, e2]
      simp (maxSteps := 2000000) only [vcA, ↓vcP, ↓reduceIte, reduceCtorEq, Nat.reduceAdd, Nat.reduceMul, Nat.reduceSub, Nat.reduceLT, Nat.reduceLeDiff, Nat.reduceEqDiff, Nat.reduceBEq, Nat.reduceBNe, Nat.reduceGT, Nat.reduceDiv, Nat.reduceMod, Int.reduceAdd, Int.reduceSub, Int.reduceNeg, Int.reduceLT, Int.reduceLE, Int.reduceEq, Int.reduceToNat, fA, q1, q1', g1]
      refine hR _ (fin_of1 [some 40] ?_)
      simp (maxSteps := 2000000) only [enA, ↓enP, Nat.reduceAdd, Nat.reduceMul, Nat.reduceSub, Nat.reduceLT, Nat.reduceLeDiff, Nat.reduceEqDiff, Nat.reduceBEq, ↓reduceIte, reduceCtorEq, fA, hs, ht]
    · have e2 : (markAt b.lines.length i).2 = 2 := by rw [markAt_lt c, h]; rfl
      have g1 : ((2 : Int) == 1) = false := rfl
      have g2 : ((2 : Int) == 2) = true := rfl
      rw [h] at hs
      rw [e1, e2]
      simp (maxSteps := 2000000) only [vcA, ↓vcP, ↓reduceIte, reduceCtorEq, Nat.reduceAdd, Nat.reduceMul, Nat.reduceSub, Nat.reduceLT, Nat.reduceLeDiff, Nat.reduceEqDiff, Nat.reduceBEq, Nat.reduceBNe, Nat.reduceGT, Nat.reduceDiv, Nat.reduceMod, Int.reduceAdd, Int.reduceSub, Int.reduceNeg, Int.reduceLT, Int.reduceLE, Int.reduceEq, Int.reduceToNat, fA, q1, q1', g1, g2]
      refine hR _ (fin_of1 [some 40] ?_)
      simp (maxSteps := 2000000) only [enA, ↓enP, Nat.reduceAdd, Nat.reduceMul, Nat.reduceSub, Nat.reduceLT, Nat.reduceLeDiff, Nat.reduceEqDiff, Nat.reduceBEq, ↓reduceIte, reduceCtorEq, fA, hs, ht]
    · have e2 : (markAt b.lines.length i).2 = 3 := by rw [markAt_lt c, h]; rfl
      have g1 : ((3 : Int) == 1) = false := rfl
      have g2 : ((3 : Int) == 2) = false := rfl
      have g3 : ((3 : Int) == 3) = true := rfl
      rw [h] at hs
      rw [e1, e2]
      simp (maxSteps := 2000000) only [vcA, ↓vcP, ↓reduceIte, reduceCtorEq, Nat.reduceAdd, Nat.reduceMul, Nat.reduceSub, Nat.reduceLT, Nat.reduceLeDiff, Nat.reduceEqDiff, Nat.reduceBEq, Nat.reduceBNe, Nat.reduceGT, Nat.reduceDiv, Nat.reduceMod, Int.reduceAdd, Int.reduceSub, Int.reduceNeg, Int.reduceLT, Int.reduceLE, Int.reduceEq, Int.reduceToNat, fA, q1, q1', g1, g2, g3]
      refine hR _ (fin_of1 [some 40] ?_)
      simp (maxSteps := 2000000) only [enA, ↓enP, Nat.reduceAdd, Nat.reduceMul, Nat.reduceSub, Nat.reduceLT, Nat.reduceLeDiff, Nat.reduceEqDiff, Nat.reduceBEq, ↓reduceIte, reduceCtorEq, fA, hs, ht]
  · obtain rfl : i = b.lines.length * 3 := by omega
    have e2 : (markAt b.lines.length (b.lines.length * 3)).2 = 4 := by rw [markAt_end]
    have e3 := setN_end b v
    have g1 : ((4 : Int) == 1) = false := rfl
    have g2 : ((4 : Int) == 2) = false := rfl
    have g3 : ((4 : Int) == 3) = false := rfl
    rw [e2]
    simp (maxSteps := 2000000) only [vcA, ↓vcP, ↓reduceIte, reduceCtorEq, Nat.reduceAdd, Nat.reduceMul, Nat.reduceSub, Nat.reduceLT, Nat.reduceLeDiff, Nat.reduceEqDiff, Nat.reduceBEq, Nat.reduceBNe, Nat.reduceGT, Nat.reduceDiv, Nat.reduceMod, Int.reduceAdd, Int.reduceSub, Int.reduceNeg, Int.reduceLT, Int.reduceLE, Int.reduceEq, Int.reduceToNat, fA, g1, g2, g3]
    refine hR _ (fin_of1 [some 40] ?_)
    simp (maxSteps := 2000000) only [enA, ↓enP, Nat.reduceAdd, Nat.reduceMul, Nat.reduceSub, Nat.reduceLT, Nat.reduceLeDiff, Nat.reduceEqDiff, Nat.reduceBEq, ↓reduceIte, reduceCtorEq, fA, e3]
end Go.Proofs.Ytmjnlcfnaoloeaa.Ab.T12
