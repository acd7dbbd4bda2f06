/- The ways: the walk. -/
import Derived.Test.YtmjnlcfnaoloeaaZK5
namespace Go.Proofs.Ytmjnlcfnaoloeaa.Ab.T12
open Go Go.RowKit
set_option linter.unusedVariables false
set_option linter.unusedSimpArgs false
set_option maxRecDepth 100000
theorem sumA_small {l : List Ln} (h : ∀ x ∈ l, 0 ≤ x.amount ∧ x.amount ≤ 2500) : ∀ i, i ≤ l.length → 0 ≤ sumA l i ∧ sumA l i ≤ 2500 * i
  | 0, _ => by simp [sumA]
  | i + 1, hi => by
    have h1 := sumA_small h i (by omega)
    have h2 := h _ (nth_mem (l := l) (i := i) (by omega))
    simp only [sumA]
    omega
theorem allL_bd {l x : Ln} (h : x ∈ allL l) : 0 ≤ x.amount ∧ x.amount ≤ 2500 := amtF_bd l _ ⟨x, h, rfl⟩
set_option maxHeartbeats 8000000 in
theorem ways0_spec (b : Bl) (hl : b.lines.length ≤ 5) (hP : prodL b.lines ≤ 30000) : ∀ (d : Nat) (now : List Ln), now.length + d = b.lines.length → (∀ x ∈ now, 0 ≤ x.amount ∧ x.amount ≤ 2500) → SpecF Try.prog 34 [.agg [.sl 3 (b.lines.map lnR), .v (.int .i64 b.total)], .sl 3 (now.map lnR)] (.ob 0 (waysL b.total (b.lines.drop now.length) now).length) [.row 51 2 ((waysL b.total (b.lines.drop now.length) now).map blR) false]
  | 0, now, hd, hn => by
    have e : b.lines.drop now.length = [] := by rw [List.drop_eq_nil_iff]; omega
    rw [e]
    have sb := sumA_small hn
    have p1 : ((now.length : Int) < (b.lines.length : Int)) = False := eq_false (by omega)
    have p1' : (now.length < b.lines.length) = False := eq_false (by omega)
    refine spec_go (N := 70) (rs := [.tmp 4]) (eq := eqs) rfl rfl fun_34 rfl (by kernel_rfl) (by kernel_rfl) (by simp) (by simp) (by simp) (by simp) fun R hR => ?_
    simp (maxSteps := 2000000) only [vcA, ↓vcP, ↓reduceIte, reduceCtorEq, Nat.reduceAdd, Nat.reduceMul, Nat.reduceSub, Nat.reduceLT, Nat.reduceLeDiff, Nat.reduceEqDiff, Nat.reduceBEq, Nat.reduceBNe, Nat.reduceGT, Nat.reduceDiv, Nat.reduceMod, Int.reduceAdd, Int.reduceSub, Int.reduceNeg, Int.reduceLT, Int.reduceLE, Int.reduceEq, Int.reduceToNat, fA, p1, p1']
    refine goC_loop (α := {i : Nat // i ≤ now.length}) (fun x => ⟨[(1, .sl 3 (now.map lnR)), (2, .ptr 8 0), (8, .v (.int .i64 (sumA now x.1))), (9, .v (.int .i64 x.1))], [(8, .box 51 [.sl 3 (b.lines.map lnR), .v (.int .i64 b.total)])]⟩) (fun x => now.length - x.1) ⟨0, by omega⟩ [] ?_ ?_
    · simp (maxSteps := 2000000) only [enA, ↓enP, Nat.reduceAdd, Nat.reduceMul, Nat.reduceSub, Nat.reduceLT, Nat.reduceLeDiff, Nat.reduceEqDiff, Nat.reduceBEq, ↓reduceIte, reduceCtorEq, fA, sumA]
      try rfl
    intro x B hB
    obtain ⟨i, hi⟩ := x
    simp only at hB ⊢
    have s1 := sb i hi
    by_cases c : i < now.length
    · have q1 : ((i : Int) < (now.length : Int)) = True := eq_true (by omega)
      have q1' : (i < now.length) = True := eq_true c
      have ei : IntKind.i64.wrap ((i : Int) + 1) = ((i + 1 : Nat) : Int) := wrap_id (by omega) (by omega)
      have ha := hn _ (nth_mem (l := now) (i := i) c)
      have es : IntKind.i64.wrap (sumA now i + (nth now i).amount) = sumA now (i + 1) := by rw [wrap_id (by omega) (by omega)]; rfl
      simp (maxSteps := 2000000) only [vcA, ↓vcP, ↓reduceIte, reduceCtorEq, Nat.reduceAdd, Nat.reduceMul, Nat.reduceSub, Nat.reduceLT, Nat.reduceLeDiff, Nat.reduceEqDiff, Nat.reduceBEq, Nat.reduceBNe, Nat.reduceGT, Nat.reduceDiv, Nat.reduceMod, Int.reduceAdd, Int.reduceSub, Int.reduceNeg, Int.reduceLT, Int.reduceLE, Int.reduceEq, Int.reduceToNat, fA, q1, q1', lnR, es]
      refine hB _ ⟨i + 1, by omega⟩ [] (by simp only; omega) rfl ?_
      simp (maxSteps := 2000000) only [enA, ↓enP, Nat.reduceAdd, Nat.reduceMul, Nat.reduceSub, Nat.reduceLT, Nat.reduceLeDiff, Nat.reduceEqDiff, Nat.reduceBEq, ↓reduceIte, reduceCtorEq, fA, ei, es]
    obtain rfl : i = now.length := by omega
    have q1 : ((now.length : Int) < (now.length : Int)) = False := eq_false (by omega)
    have q1' : (now.length < now.length) = False := eq_false c
    by_cases t1 : b.total = -1
    · have g1 : (b.total != -1) = false := by simpa using t1
      have ew : waysL b.total [] now = [⟨now, sumA now now.length⟩] := by unfold waysL; rw [if_neg (fun h => h.1 t1)]
      rw [ew] at hR
      simp (maxSteps := 2000000) only [vcA, ↓vcP, ↓reduceIte, reduceCtorEq, Nat.reduceAdd, Nat.reduceMul, Nat.reduceSub, Nat.reduceLT, Nat.reduceLeDiff, Nat.reduceEqDiff, Nat.reduceBEq, Nat.reduceBNe, Nat.reduceGT, Nat.reduceDiv, Nat.reduceMod, Int.reduceAdd, Int.reduceSub, Int.reduceNeg, Int.reduceLT, Int.reduceLE, Int.reduceEq, Int.reduceToNat, fA, q1, q1', g1]
      refine hR _ (fin_of1 [some 248] ?_)
      simp (maxSteps := 2000000) only [enA, ↓enP, Nat.reduceAdd, Nat.reduceMul, Nat.reduceSub, Nat.reduceLT, Nat.reduceLeDiff, Nat.reduceEqDiff, Nat.reduceBEq, ↓reduceIte, reduceCtorEq, fA, blR]
    · have g1 : (b.total != -1) = true := by simpa using t1
      by_cases t2 : b.total = sumA now now.length
      · have g2 : (b.total != sumA now now.length) = false := by simpa using t2
        have ew : waysL b.total [] now = [⟨now, sumA now now.length⟩] := by unfold waysL; rw [if_neg (fun h => h.2 t2)]
        rw [ew] at hR
        simp (maxSteps := 2000000) only [vcA, ↓vcP, ↓reduceIte, reduceCtorEq, Nat.reduceAdd, Nat.reduceMul, Nat.reduceSub, Nat.reduceLT, Nat.reduceLeDiff, Nat.reduceEqDiff, Nat.reduceBEq, Nat.reduceBNe, Nat.reduceGT, Nat.reduceDiv, Nat.reduceMod, Int.reduceAdd, Int.reduceSub, Int.reduceNeg, Int.reduceLT, Int.reduceLE, Int.reduceEq, Int.reduceToNat, fA, q1, q1', g1, g2]
        refine hR _ (fin_of1 [some 248] ?_)
        simp (maxSteps := 2000000) only [enA, ↓enP, Nat.reduceAdd, Nat.reduceMul, Nat.reduceSub, Nat.reduceLT, Nat.reduceLeDiff, Nat.reduceEqDiff, Nat.reduceBEq, ↓reduceIte, reduceCtorEq, fA, blR]
      · have g2 : (b.total != sumA now now.length) = true := by simpa using t2
        have ew : waysL b.total [] now = [] := by unfold waysL; rw [if_pos ⟨t1, t2⟩]
        rw [ew] at hR
        simp (maxSteps := 2000000) only [vcA, ↓vcP, ↓reduceIte, reduceCtorEq, Nat.reduceAdd, Nat.reduceMul, Nat.reduceSub, Nat.reduceLT, Nat.reduceLeDiff, Nat.reduceEqDiff, Nat.reduceBEq, Nat.reduceBNe, Nat.reduceGT, Nat.reduceDiv, Nat.reduceMod, Int.reduceAdd, Int.reduceSub, Int.reduceNeg, Int.reduceLT, Int.reduceLE, Int.reduceEq, Int.reduceToNat, fA, q1, q1', g1, g2]
        refine hR _ (fin_of1 [none] ?_)
        simp (maxSteps := 2000000) only [enA, ↓enP, Nat.reduceAdd, Nat.reduceMul, Nat.reduceSub, Nat.reduceLT, Nat.reduceLeDiff, Nat.reduceEqDiff, Nat.reduceBEq, ↓reduceIte, reduceCtorEq, fA]
  | d + 1, now, hd, hn => by
    have hc : now.length < b.lines.length := by omega
    have e : b.lines.drop now.length = nth b.lines now.length :: b.lines.drop (now.length + 1) := drop_nth hc
    have p1 : ((now.length : Int) < (b.lines.length : Int)) = True := eq_true (by omega)
    have p1' : (now.length < b.lines.length) = True := eq_true hc
    refine spec_go (N := 70) (rs := [.tmp 4]) (eq := eqs) rfl rfl fun_34 rfl (by kernel_rfl) (by kernel_rfl) (by simp) (by simp) (by simp) (by simp) fun R hR => ?_
    simp (maxSteps := 2000000) only [vcA, ↓vcP, ↓reduceIte, reduceCtorEq, Nat.reduceAdd, Nat.reduceMul, Nat.reduceSub, Nat.reduceLT, Nat.reduceLeDiff, Nat.reduceEqDiff, Nat.reduceBEq, Nat.reduceBNe, Nat.reduceGT, Nat.reduceDiv, Nat.reduceMod, Int.reduceAdd, Int.reduceSub, Int.reduceNeg, Int.reduceLT, Int.reduceLE, Int.reduceEq, Int.reduceToNat, fA, p1, p1', lnR]
    refine onF_data (line_spec (nth b.lines now.length)) ?_ ?_
    · simp (maxSteps := 2000000) only [okA, ↓okP, Nat.reduceAdd, Nat.reduceMul, Nat.reduceSub, Nat.reduceLT, Nat.reduceLeDiff, Nat.reduceEqDiff, Nat.reduceBEq, ↓reduceIte, reduceCtorEq]
    simp (maxSteps := 2000000) only [vcA, ↓vcP, ↓reduceIte, reduceCtorEq, Nat.reduceAdd, Nat.reduceMul, Nat.reduceSub, Nat.reduceLT, Nat.reduceLeDiff, Nat.reduceEqDiff, Nat.reduceBEq, Nat.reduceBNe, Nat.reduceGT, Nat.reduceDiv, Nat.reduceMod, Int.reduceAdd, Int.reduceSub, Int.reduceNeg, Int.reduceLT, Int.reduceLE, Int.reduceEq, Int.reduceToNat, fA]
    have ed : ∀ x, b.lines.drop (now ++ [x]).length = b.lines.drop (now.length + 1) := fun x => by simp
    have wl : ∀ x, (waysL b.total (b.lines.drop (now.length + 1)) (now ++ [x])).length ≤ prodL (b.lines.drop (now.length + 1)) := fun x => waysL_len _ _ _
    have pd := prodL_drop_le b.lines (now.length + 1)
    have al := allL_len (nth b.lines now.length)
    have tl : ∀ i, (waysT b.total (allL (nth b.lines now.length)) (b.lines.drop (now.length + 1)) now i).length ≤ 2601 * 30000 := fun i => by
      have h := flat_len (f := fun x => waysL b.total (b.lines.drop (now.length + 1)) (now ++ [x])) (l := (allL (nth b.lines now.length)).take i) (k := prodL (b.lines.drop (now.length + 1))) fun x _ => wl x
      have h2 : ((allL (nth b.lines now.length)).take i).length ≤ 2601 := by rw [List.length_take]; omega
      have h3 : ((allL (nth b.lines now.length)).take i).length * prodL (b.lines.drop (now.length + 1)) ≤ 2601 * 30000 := Nat.mul_le_mul h2 (by omega)
      unfold waysT
      omega
    refine goC_loop (α := {i : Nat // i ≤ (allL (nth b.lines now.length)).length}) (fun x => ⟨[(1, .sl 3 (now.map lnR)), (2, .ptr 8 0), (5, .ob 160 (waysT b.total (allL (nth b.lines now.length)) (b.lines.drop (now.length + 1)) now x.1).length), (6, .sl 3 ((allL (nth b.lines now.length)).map lnR)), (7, .v (.int .i64 x.1))], [(8, .box 51 [.sl 3 (b.lines.map lnR), .v (.int .i64 b.total)]), (160, .row 51 2 ((waysT b.total (allL (nth b.lines now.length)) (b.lines.drop (now.length + 1)) now x.1).map blR) false)]⟩) (fun x => (allL (nth b.lines now.length)).length - x.1) ⟨0, by omega⟩ [some 72] ?_ ?_
    · have e0 : waysT b.total (allL (nth b.lines now.length)) (b.lines.drop (now.length + 1)) now 0 = [] := by simp [waysT]
      simp (maxSteps := 2000000) only [enA, ↓enP, Nat.reduceAdd, Nat.reduceMul, Nat.reduceSub, Nat.reduceLT, Nat.reduceLeDiff, Nat.reduceEqDiff, Nat.reduceBEq, ↓reduceIte, reduceCtorEq, fA, e0]
      try rfl
    intro x B hB
    obtain ⟨i, hi⟩ := x
    simp only at hB ⊢
    have tli := tl i
    by_cases c : i < (allL (nth b.lines now.length)).length
    · have q1 : ((i : Int) < ((allL (nth b.lines now.length)).length : Int)) = True := eq_true (by omega)
      have q1' : (i < (allL (nth b.lines now.length)).length) = True := eq_true c
      have ei : IntKind.i64.wrap ((i : Int) + 1) = ((i + 1 : Nat) : Int) := wrap_id (by omega) (by omega)
      have hx := nth_mem c
      have ts := waysT_succ (tot := b.total) (ls := b.lines.drop (now.length + 1)) (now := now) c
      have wli := wl (nth (allL (nth b.lines now.length)) i)
      have ih := ways0_spec b hl hP d (now ++ [nth (allL (nth b.lines now.length)) i]) (by simp; omega) fun x hx' => by
        rcases List.mem_append.1 hx' with h | h
        · exact hn x h
        · rw [List.mem_singleton.1 h]; exact allL_bd hx
      rw [ed] at ih
      have ih : SpecF Try.prog 34 [.agg [.sl 3 (b.lines.map lnR), .v (.int .i64 b.total)], .sl 3 ((now ++ [nth (allL (nth b.lines now.length)) i]).map lnR)] (.sl 2 ((waysL b.total (b.lines.drop (now.length + 1)) (now ++ [nth (allL (nth b.lines now.length)) i])).map blR)) [] := ih.frz
      simp (maxSteps := 2000000) only [vcA, ↓vcP, ↓reduceIte, reduceCtorEq, Nat.reduceAdd, Nat.reduceMul, Nat.reduceSub, Nat.reduceLT, Nat.reduceLeDiff, Nat.reduceEqDiff, Nat.reduceBEq, Nat.reduceBNe, Nat.reduceGT, Nat.reduceDiv, Nat.reduceMod, Int.reduceAdd, Int.reduceSub, Int.reduceNeg, Int.reduceLT, Int.reduceLE, Int.reduceEq, Int.reduceToNat, fA, q1, q1', lnR]
      refine ⟨⟨by omega, by simp only [maxLen]; omega⟩, fun _ => ?_⟩
      refine ⟨by kernel_rfl, ⟨by omega, by simp only [maxLen]; omega⟩, fun _ => ⟨⟨by kernel_rfl, by kernel_rfl⟩, ?_⟩⟩
      refine onF_call ih [304] [] [] ?_ ?_
      · simp (maxSteps := 2000000) only [okA, ↓okP, Nat.reduceAdd, Nat.reduceMul, Nat.reduceSub, Nat.reduceLT, Nat.reduceLeDiff, Nat.reduceEqDiff, Nat.reduceBEq, ↓reduceIte, reduceCtorEq, lnR, List.map_append, List.map_cons, List.map_nil]
      simp (maxSteps := 2000000) only [vcA, ↓vcP, ↓reduceIte, reduceCtorEq, Nat.reduceAdd, Nat.reduceMul, Nat.reduceSub, Nat.reduceLT, Nat.reduceLeDiff, Nat.reduceEqDiff, Nat.reduceBEq, Nat.reduceBNe, Nat.reduceGT, Nat.reduceDiv, Nat.reduceMod, Int.reduceAdd, Int.reduceSub, Int.reduceNeg, Int.reduceLT, Int.reduceLE, Int.reduceEq, Int.reduceToNat, fA]
      refine ⟨by kernel_rfl, ?_⟩
      refine ⟨⟨by omega, by simp only [maxLen]; omega⟩, fun _ => ?_⟩
      try refine ⟨by kernel_rfl, ?_⟩
      refine hB _ ⟨i + 1, by omega⟩ [some 320] (by simp only; omega) rfl ?_
      simp (maxSteps := 2000000) only [enA, ↓enP, Nat.reduceAdd, Nat.reduceMul, Nat.reduceSub, Nat.reduceLT, Nat.reduceLeDiff, Nat.reduceEqDiff, Nat.reduceBEq, ↓reduceIte, reduceCtorEq, fA, ei, ts, List.map_append, List.length_append]
    obtain rfl : i = (allL (nth b.lines now.length)).length := by omega
    have q1 : (((allL (nth b.lines now.length)).length : Int) < ((allL (nth b.lines now.length)).length : Int)) = False := eq_false (by omega)
    have q1' : ((allL (nth b.lines now.length)).length < (allL (nth b.lines now.length)).length) = False := eq_false c
    have et : waysT b.total (allL (nth b.lines now.length)) (b.lines.drop (now.length + 1)) now (allL (nth b.lines now.length)).length = waysL b.total (b.lines.drop now.length) now := by
      rw [e]
      unfold waysT
      rw [List.take_length]
      rfl
    rw [et]
    simp (maxSteps := 2000000) only [vcA, ↓vcP, ↓reduceIte, reduceCtorEq, Nat.reduceAdd, Nat.reduceMul, Nat.reduceSub, Nat.reduceLT, Nat.reduceLeDiff, Nat.reduceEqDiff, Nat.reduceBEq, Nat.reduceBNe, Nat.reduceGT, Nat.reduceDiv, Nat.reduceMod, Int.reduceAdd, Int.reduceSub, Int.reduceNeg, Int.reduceLT, Int.reduceLE, Int.reduceEq, Int.reduceToNat, fA, q1, q1']
    refine hR _ (fin_of1 [some 160] ?_)
    simp (maxSteps := 2000000) only [enA, ↓enP, Nat.reduceAdd, Nat.reduceMul, Nat.reduceSub, Nat.reduceLT, Nat.reduceLeDiff, Nat.reduceEqDiff, Nat.reduceBEq, ↓reduceIte, reduceCtorEq, fA]
theorem ways_spec (b : Bl) (hl : b.lines.length ≤ 5) (hP : prodL b.lines ≤ 30000) : SpecF Try.prog 34 [.agg [.sl 3 (b.lines.map lnR), .v (.int .i64 b.total)], .sl 3 (([] : List Ln).map lnR)] (.sl 2 ((waysL b.total b.lines []).map blR)) [] := (ways0_spec b hl hP b.lines.length [] (by simp) (by simp)).frz
end Go.Proofs.Ytmjnlcfnaoloeaa.Ab.T12
