/- Possible: the greatest number of places of any truth, and its columns. -/
import Derived.Test.YtdgeocjchnandaaZN4
namespace Go.Proofs.Ytdgeocjchnandaa.Ab.T01
open Go Go.RowKit
set_option linter.unusedSimpArgs false
set_option linter.unusedVariables false
set_option maxRecDepth 100000
set_option pp.maxSteps 1000000
set_option pp.deepTerms true
theorem cloneI_spec (l : List Int) (hl : l.length < 1000000) : SpecF Try.prog 18 [.sl 1 (l.map iR)] (.ob 0 l.length) [.row 3 1 (l.map iR) false] := by
  refine spec_go (N := 8) (rs := [.tmp 2]) (eq := eqs) rfl rfl fun_18 rfl (by kernel_rfl) (by kernel_rfl) (by simp) (by simp) (by simp) (by simp) fun R hR => ?_
  simp (maxSteps := 2000000) only [vcA, ↓vcP, ↓reduceIte, reduceCtorEq, Nat.reduceAdd, Nat.reduceMul, Nat.reduceSub, Nat.reduceLT, Nat.reduceLeDiff, Nat.reduceEqDiff, Nat.reduceBEq, Nat.reduceBNe, Nat.reduceGT, Nat.reduceDiv, Nat.reduceMod, Int.reduceAdd, Int.reduceSub, Int.reduceNeg, Int.reduceLT, Int.reduceLE, Int.reduceEq, Int.reduceToNat, fA]
  refine ⟨fun h => hR _ (fin_of1 [none] ?_), ⟨⟨by omega, by simp only [maxLen]; omega⟩, fun _ => hR _ (fin_of1 [some 48] ?_)⟩⟩
  · have h : l = [] := by simpa using h
    subst h
    simp (maxSteps := 2000000) only [enA, ↓enP, Nat.reduceAdd, Nat.reduceMul, Nat.reduceSub, Nat.reduceLT, Nat.reduceLeDiff, Nat.reduceEqDiff, Nat.reduceBEq, ↓reduceIte, reduceCtorEq, fA]
  · simp (maxSteps := 2000000) only [enA, ↓enP, Nat.reduceAdd, Nat.reduceMul, Nat.reduceSub, Nat.reduceLT, Nat.reduceLeDiff, Nat.reduceEqDiff, Nat.reduceBEq, ↓reduceIte, reduceCtorEq, fA]
/-- How many pieces at most, at one truth. -/
def cntP (b : Bl) (s : Sw) (i : Nat) : Nat := (mostI (bestB b (nth (colsL b.cracks) i)) s).length
def possJ (b : Bl) (s : Sw) : Nat → Int × Nat
  | 0 => (-1, 0)
  | n + 1 => if (possJ b s n).1 < cntP b s n then (cntP b s n, n) else possJ b s n
def possC (b : Bl) (s : Sw) (n : Nat) : List Int := if n = 0 then [] else nth (colsL b.cracks) (possJ b s n).2
/-- What Possible answers. -/
def possR (b : Bl) (s : Sw) : Int × List Int := if openErr b s = 0 then ((possJ b s (colsL b.cracks).length).1, possC b s (colsL b.cracks).length) else (0, [])
set_option maxHeartbeats 4000000 in
theorem possible_spec (b : Bl) (s : Sw) (h1 : b.bottom.length < 1000000) (h2 : b.top.length < 1000000) : SpecF Try.prog 7 [.agg [.sl 2 (b.bottom.map spR), .sl 2 (b.top.map spR), .v (.int .i64 b.bend), .sl 6 (b.cracks.map crR)], .agg [.v (.int .i64 s.long), .v (.int .i64 s.wide), .v (.int .i64 s.kerf), .v (.int .i64 s.across)]]
    (.tup [.v (.int .i64 (possR b s).1), .sl 1 ((possR b s).2.map iR), .v (.int .i64 (openErr b s))]) [] := by
  refine SpecG.frz (r := .tup [.v (.int .i64 (possR b s).1), .ob 0 (possR b s).2.length, .v (.int .i64 (openErr b s))]) (objs := [.row 3 1 ((possR b s).2.map iR) false]) ?_
  have b0 : ((0 : Int) != 0) = false := rfl
  refine spec_go (N := 36) (rs := [.cell 4 3, .cell 5 39, .tmp 6]) (eq := eqs) rfl rfl fun_7 rfl (by kernel_rfl) (by kernel_rfl) (by simp) (by simp) (by simp) (by simp) fun R hR => ?_
  simp (maxSteps := 2000000) only [vcA, ↓vcP, ↓reduceIte, reduceCtorEq, Nat.reduceAdd, Nat.reduceMul, Nat.reduceSub, Nat.reduceLT, Nat.reduceLeDiff, Nat.reduceEqDiff, Nat.reduceBEq, Nat.reduceBNe, Nat.reduceGT, Nat.reduceDiv, Nat.reduceMod, Int.reduceAdd, Int.reduceSub, Int.reduceNeg, Int.reduceLT, Int.reduceLE, Int.reduceEq, Int.reduceToNat, fA]
  refine onF_data (openF_spec b s h1 h2) ?_ ?_
  · simp (maxSteps := 2000000) only [okA, ↓okP, Nat.reduceAdd, Nat.reduceMul, Nat.reduceSub, Nat.reduceLT, Nat.reduceLeDiff, Nat.reduceEqDiff, Nat.reduceBEq, ↓reduceIte, reduceCtorEq]
  by_cases hO : openErr b s = 0
  · obtain ⟨hN, hS⟩ := open_ok hO
    obtain ⟨n0, o1, o2, l1, l2, g1, g2, g3, g4⟩ := new_ok hN
    have hcc := crack_cols hN
    have hlen := colsL_len (cs := b.cracks)
    obtain ⟨N, hN1, _⟩ := cols_steps (cs := b.cracks) fun c hc => (hcc c hc).2.1
    have hR0 : possR b s = ((possJ b s (colsL b.cracks).length).1, possC b s (colsL b.cracks).length) := by unfold possR; rw [if_pos hO]
    have hms : ∀ i, SpecF Try.prog 14 [.agg [.sl 1 ((bestB b (nth (colsL b.cracks) i)).bottom.map iR), .sl 1 ((bestB b (nth (colsL b.cracks) i)).top.map iR), .sl 4 ((bestB b (nth (colsL b.cracks) i)).spoils.map spoR)], .agg [.v (.int .i64 s.long), .v (.int .i64 s.wide), .v (.int .i64 s.kerf), .v (.int .i64 s.across)]] (.sl 2 ((mostI (bestB b (nth (colsL b.cracks) i)) s).map plcR)) [] := fun i => (most_spec _ s (best_ok hN _) hS).frz
    have hcn : ∀ i, (mostI (bestB b (nth (colsL b.cracks) i)) s).length = cntP b s i := fun i => rfl
    rw [hO, n0]
    simp (maxSteps := 2000000) only [vcA, ↓vcP, ↓reduceIte, reduceCtorEq, Nat.reduceAdd, Nat.reduceMul, Nat.reduceSub, Nat.reduceLT, Nat.reduceLeDiff, Nat.reduceEqDiff, Nat.reduceBEq, Nat.reduceBNe, Nat.reduceGT, Nat.reduceDiv, Nat.reduceMod, Int.reduceAdd, Int.reduceSub, Int.reduceNeg, Int.reduceLT, Int.reduceLE, Int.reduceEq, Int.reduceToNat, fA, b0]
    refine goC_rangeF [(96, 7, 0, [.sl 2 (b.bottom.map spR), .sl 2 (b.top.map spR), .v (.int .i64 b.bend), .sl 6 (b.cracks.map crR), .sl 2 ((newLow b).map spR), .sl 2 ((newTop b).map spR)])] ⟨rfl, rfl, trivial⟩ (A := [.agg [.sl 2 (b.bottom.map spR), .sl 2 (b.top.map spR), .v (.int .i64 b.bend), .sl 6 (b.cracks.map crR), .sl 2 ((newLow b).map spR), .sl 2 ((newTop b).map spR)], .yl 0]) (bs' := [.agg [.sl 2 (b.bottom.map spR), .sl 2 (b.top.map spR), .v (.int .i64 b.bend), .sl 6 (b.cracks.map crR), .sl 2 ((newLow b).map spR), .sl 2 ((newTop b).map spR)]])
        [(3, .ptr 16 0), (4, .ptr 24 0), (5, .ptr 32 0), (6, .v (.int .i64 0)), (7, .elp 6 [[.sl 2 (b.bottom.map spR), .sl 2 (b.top.map spR), .v (.int .i64 b.bend), .sl 6 (b.cracks.map crR), .sl 2 ((newLow b).map spR), .sl 2 ((newTop b).map spR)]] 0 0)] (fun j : Nat => [(16, .box 37 [.v (.int .i64 s.long), .v (.int .i64 s.wide), .v (.int .i64 s.kerf), .v (.int .i64 s.across)]), (24, .box 3 [.v (.int .i64 (possJ b s j).1)]), (32, .box 39 [.ob 160 (possC b s j).length]), (160, .row 3 1 ((possC b s j).map iR) false)]) [] []
        (fun j => none) (fun i args j => i < (colsL b.cracks).length ∧ args = [.sl 1 ((nth (colsL b.cracks) i).map iR)] ∧ j = i + 1) 0 (colsL b.cracks).length (.tup []) [none] (.inl ⟨rfl, rfl⟩) ?_ ?_ (exsOk_nil _) (fun x p hp => by simp at hp) ?_ ?_ ?_ ?_ ?_ ?_
    · simp (maxSteps := 2000000) only [okA, ↓okP, Nat.reduceAdd, Nat.reduceMul, Nat.reduceSub, Nat.reduceLT, Nat.reduceLeDiff, Nat.reduceEqDiff, Nat.reduceBEq, ↓reduceIte, reduceCtorEq, rt]
    · simp (maxSteps := 2000000) only [enA, ↓enP, Nat.reduceAdd, Nat.reduceMul, Nat.reduceSub, Nat.reduceLT, Nat.reduceLeDiff, Nat.reduceEqDiff, Nat.reduceBEq, ↓reduceIte, reduceCtorEq, fA, frzS, frz1B, List.append_nil]
      exact ⟨rfl, rfl, rfl⟩
    · rfl
    · trivial
    · intro σ
      simp [tmsSelf, eqr, eqr2, eqr1, eqr0, rn, eqrL]
    · intro Φ hsh hy
      refine columns_spec b (newLow b) (newTop b) hcc (by omega) (hsh fun x p hp => ?_) _ false ⟨by omega, Nat.le_refl _⟩ (fun _ => rfl) fun i hi => ?_
      · simp only [List.mem_cons, List.not_mem_nil, or_false] at hp
        rcases hp with rfl | rfl | rfl | rfl
        · intro c hc
          simp only [List.mem_cons, List.not_mem_nil, or_false] at hc
          rcases hc with rfl | rfl | rfl | rfl <;> trivial
        · intro c hc
          simp only [List.mem_cons, List.not_mem_nil, or_false] at hc
          rcases hc with rfl <;> trivial
        · intro c hc
          simp only [List.mem_cons, List.not_mem_nil, or_false] at hc
          rcases hc with rfl <;> trivial
        · refine ⟨rfl, fun r hr d hd => ?_⟩
          obtain ⟨n, _, rfl⟩ := List.mem_map.1 hr
          simp only [iR, List.mem_cons, List.not_mem_nil, or_false] at hd
          subst hd
          trivial
      · exact hy i _ _ ⟨hi, rfl, rfl⟩
    · rintro i args j ⟨hi, rfl, rfl⟩
      have hli := hlen (nth (colsL b.cracks) i) (nth_mem (by omega))
      refine ⟨rfl, trivial, rfl, [.sl 1 ((nth (colsL b.cracks) i).map iR)], ?_, fun B2 hB2 => ?_⟩
      · simp (maxSteps := 2000000) only [okA, ↓okP, Nat.reduceAdd, Nat.reduceMul, Nat.reduceSub, Nat.reduceLT, Nat.reduceLeDiff, Nat.reduceEqDiff, Nat.reduceBEq, ↓reduceIte, reduceCtorEq]
      simp (maxSteps := 2000000) only [vcA, ↓vcP, ↓reduceIte, reduceCtorEq, Nat.reduceAdd, Nat.reduceMul, Nat.reduceSub, Nat.reduceLT, Nat.reduceLeDiff, Nat.reduceEqDiff, Nat.reduceBEq, Nat.reduceBNe, Nat.reduceGT, Nat.reduceDiv, Nat.reduceMod, Int.reduceAdd, Int.reduceSub, Int.reduceNeg, Int.reduceLT, Int.reduceLE, Int.reduceEq, Int.reduceToNat, fA, elpLoad]
      refine onF_data (best_spec b (newLow b) (newTop b) (nth (colsL b.cracks) i) (by omega) (by omega) (by omega) hli) ?_ ?_
      · simp (maxSteps := 2000000) only [okA, ↓okP, Nat.reduceAdd, Nat.reduceMul, Nat.reduceSub, Nat.reduceLT, Nat.reduceLeDiff, Nat.reduceEqDiff, Nat.reduceBEq, ↓reduceIte, reduceCtorEq]
      simp (maxSteps := 2000000) only [vcA, ↓vcP, ↓reduceIte, reduceCtorEq, Nat.reduceAdd, Nat.reduceMul, Nat.reduceSub, Nat.reduceLT, Nat.reduceLeDiff, Nat.reduceEqDiff, Nat.reduceBEq, Nat.reduceBNe, Nat.reduceGT, Nat.reduceDiv, Nat.reduceMod, Int.reduceAdd, Int.reduceSub, Int.reduceNeg, Int.reduceLT, Int.reduceLE, Int.reduceEq, Int.reduceToNat, fA]
      refine onF_data (hms i) ?_ ?_
      · simp (maxSteps := 2000000) only [okA, ↓okP, Nat.reduceAdd, Nat.reduceMul, Nat.reduceSub, Nat.reduceLT, Nat.reduceLeDiff, Nat.reduceEqDiff, Nat.reduceBEq, ↓reduceIte, reduceCtorEq]
        exact ⟨rfl, rfl, rfl⟩
      by_cases hgt : (possJ b s i).1 < (cntP b s i : Int)
      · have pg : ((possJ b s i).1 < (cntP b s i : Int)) = True := eq_true hgt
        have ej : possJ b s (i + 1) = ((cntP b s i : Int), i) := by rw [possJ, if_pos hgt]
        have ec : possC b s (i + 1) = nth (colsL b.cracks) i := by unfold possC; rw [if_neg (by omega), ej]
        simp (maxSteps := 2000000) only [vcA, ↓vcP, ↓reduceIte, reduceCtorEq, Nat.reduceAdd, Nat.reduceMul, Nat.reduceSub, Nat.reduceLT, Nat.reduceLeDiff, Nat.reduceEqDiff, Nat.reduceBEq, Nat.reduceBNe, Nat.reduceGT, Nat.reduceDiv, Nat.reduceMod, Int.reduceAdd, Int.reduceSub, Int.reduceNeg, Int.reduceLT, Int.reduceLE, Int.reduceEq, Int.reduceToNat, fA, pg, List.length_map, hcn]
        refine onF_call (cloneI_spec (nth (colsL b.cracks) i) (by omega)) [] [] [] ?_ ?_
        · simp (maxSteps := 2000000) only [okA, ↓okP, Nat.reduceAdd, Nat.reduceMul, Nat.reduceSub, Nat.reduceLT, Nat.reduceLeDiff, Nat.reduceEqDiff, Nat.reduceBEq, ↓reduceIte, reduceCtorEq]
        simp (maxSteps := 2000000) only [vcA, ↓vcP, ↓reduceIte, reduceCtorEq, Nat.reduceAdd, Nat.reduceMul, Nat.reduceSub, Nat.reduceLT, Nat.reduceLeDiff, Nat.reduceEqDiff, Nat.reduceBEq, Nat.reduceBNe, Nat.reduceGT, Nat.reduceDiv, Nat.reduceMod, Int.reduceAdd, Int.reduceSub, Int.reduceNeg, Int.reduceLT, Int.reduceLE, Int.reduceEq, Int.reduceToNat, fA]
        refine hB2 .normal _ [some 296] rfl ?_
        simp (maxSteps := 2000000) only [enA, ↓enP, Nat.reduceAdd, Nat.reduceMul, Nat.reduceSub, Nat.reduceLT, Nat.reduceLeDiff, Nat.reduceEqDiff, Nat.reduceBEq, ↓reduceIte, reduceCtorEq, fA, ej, ec]
      · have pg : ((possJ b s i).1 < (cntP b s i : Int)) = False := eq_false hgt
        have ej : possJ b s (i + 1) = possJ b s i := by rw [possJ, if_neg hgt]
        have i0 : i ≠ 0 := fun h => by subst h; exact hgt (by simp [possJ]; omega)
        have ec : possC b s (i + 1) = possC b s i := by unfold possC; rw [if_neg (by omega), if_neg i0, ej]
        simp (maxSteps := 2000000) only [vcA, ↓vcP, ↓reduceIte, reduceCtorEq, Nat.reduceAdd, Nat.reduceMul, Nat.reduceSub, Nat.reduceLT, Nat.reduceLeDiff, Nat.reduceEqDiff, Nat.reduceBEq, Nat.reduceBNe, Nat.reduceGT, Nat.reduceDiv, Nat.reduceMod, Int.reduceAdd, Int.reduceSub, Int.reduceNeg, Int.reduceLT, Int.reduceLE, Int.reduceEq, Int.reduceToNat, fA, pg, List.length_map, hcn]
        refine hB2 .normal _ [some 160] rfl ?_
        simp (maxSteps := 2000000) only [enA, ↓enP, Nat.reduceAdd, Nat.reduceMul, Nat.reduceSub, Nat.reduceLT, Nat.reduceLeDiff, Nat.reduceEqDiff, Nat.reduceBEq, ↓reduceIte, reduceCtorEq, fA, ej, ec]
    · simp (maxSteps := 2000000) only [vcA, ↓vcP, ↓reduceIte, reduceCtorEq, Nat.reduceAdd, Nat.reduceMul, Nat.reduceSub, Nat.reduceLT, Nat.reduceLeDiff, Nat.reduceEqDiff, Nat.reduceBEq, Nat.reduceBNe, Nat.reduceGT, Nat.reduceDiv, Nat.reduceMod, Int.reduceAdd, Int.reduceSub, Int.reduceNeg, Int.reduceLT, Int.reduceLE, Int.reduceEq, Int.reduceToNat, fA, elpLoad, List.append_nil]
      repeat (first | refine ⟨by kernel_rfl, ?_⟩ | refine ⟨⟨by kernel_rfl, by kernel_rfl⟩, ?_⟩ | refine ⟨⟨by kernel_rfl, by kernel_rfl, by kernel_rfl⟩, ?_⟩ | refine ⟨⟨by kernel_rfl, by kernel_rfl, by kernel_rfl, by kernel_rfl⟩, ?_⟩ | refine ⟨⟨by kernel_rfl, by kernel_rfl, by kernel_rfl, by kernel_rfl, by kernel_rfl⟩, ?_⟩ | refine ⟨⟨by kernel_rfl, by kernel_rfl, by kernel_rfl, by kernel_rfl, by kernel_rfl, by kernel_rfl⟩, ?_⟩ | refine ⟨⟨by kernel_rfl, by kernel_rfl, by kernel_rfl, by kernel_rfl, by kernel_rfl, by kernel_rfl, by kernel_rfl⟩, ?_⟩ | refine ⟨⟨by kernel_rfl, by kernel_rfl, by kernel_rfl, by kernel_rfl, by kernel_rfl, by kernel_rfl, by kernel_rfl, by kernel_rfl⟩, ?_⟩ | refine ⟨⟨by kernel_rfl, by kernel_rfl, by kernel_rfl, by kernel_rfl, by kernel_rfl, by kernel_rfl, by kernel_rfl, by kernel_rfl, by kernel_rfl⟩, ?_⟩ | refine ⟨⟨by kernel_rfl, by kernel_rfl, by kernel_rfl, by kernel_rfl, by kernel_rfl, by kernel_rfl, by kernel_rfl, by kernel_rfl, by kernel_rfl, by kernel_rfl⟩, ?_⟩ | refine ⟨⟨by kernel_rfl, by kernel_rfl, by kernel_rfl, by kernel_rfl, by kernel_rfl, by kernel_rfl, by kernel_rfl, by kernel_rfl, by kernel_rfl, by kernel_rfl, by kernel_rfl⟩, ?_⟩ | refine ⟨⟨by kernel_rfl, by kernel_rfl, by kernel_rfl, by kernel_rfl, by kernel_rfl, by kernel_rfl, by kernel_rfl, by kernel_rfl, by kernel_rfl, by kernel_rfl, by kernel_rfl, by kernel_rfl⟩, ?_⟩ | refine ⟨⟨by kernel_rfl, by kernel_rfl, by kernel_rfl, by kernel_rfl, by kernel_rfl, by kernel_rfl, by kernel_rfl, by kernel_rfl, by kernel_rfl, by kernel_rfl, by kernel_rfl, by kernel_rfl, by kernel_rfl⟩, ?_⟩)
      refine hR _ (fin_of1 [some 160] ?_)
      rw [hR0, hO]
      simp (maxSteps := 2000000) only [enA, ↓enP, Nat.reduceAdd, Nat.reduceMul, Nat.reduceSub, Nat.reduceLT, Nat.reduceLeDiff, Nat.reduceEqDiff, Nat.reduceBEq, ↓reduceIte, reduceCtorEq, fA]
  · have q : (openErr b s != 0) = true := by simpa using hO
    have e2 : possR b s = (0, []) := by unfold possR; rw [if_neg hO]
    simp (maxSteps := 2000000) only [vcA, ↓vcP, ↓reduceIte, reduceCtorEq, Nat.reduceAdd, Nat.reduceMul, Nat.reduceSub, Nat.reduceLT, Nat.reduceLeDiff, Nat.reduceEqDiff, Nat.reduceBEq, Nat.reduceBNe, Nat.reduceGT, Nat.reduceDiv, Nat.reduceMod, Int.reduceAdd, Int.reduceSub, Int.reduceNeg, Int.reduceLT, Int.reduceLE, Int.reduceEq, Int.reduceToNat, fA, q]
    refine hR _ (fin_of1 [none] ?_)
    rw [e2]
    simp (maxSteps := 2000000) only [enA, ↓enP, Nat.reduceAdd, Nat.reduceMul, Nat.reduceSub, Nat.reduceLT, Nat.reduceLeDiff, Nat.reduceEqDiff, Nat.reduceBEq, ↓reduceIte, reduceCtorEq, fA]
end Go.Proofs.Ytdgeocjchnandaa.Ab.T01
