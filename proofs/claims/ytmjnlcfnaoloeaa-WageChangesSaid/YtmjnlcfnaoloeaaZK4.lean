/- All lines that a line can be, and the ways: the document's. -/
import Derived.Test.YtmjnlcfnaoloeaaZK2
namespace Go.Proofs.Ytmjnlcfnaoloeaa.Ab.T12
open Go Go.RowKit
set_option linter.unusedVariables false
set_option linter.unusedSimpArgs false
set_option maxRecDepth 100000
theorem rowT_len (l : Ln) (m e : Nat) : (rowT l m e).length ≤ e := by
  unfold rowT
  have h := List.length_filter_le (fitL l) ((List.range e).map (cand m))
  simpa using h
theorem allT_len (l : Ln) : ∀ m, (allT l m).length ≤ 51 * m
  | 0 => by simp [allT]
  | m + 1 => by
    have h1 := allT_len l m
    have h2 := rowT_len l m 51
    rw [allT_succ, List.length_append]
    omega
theorem allL_len (l : Ln) : (allL l).length ≤ 2601 := allT_len l 51
set_option maxHeartbeats 4000000 in
theorem line0_spec (l : Ln) : SpecF Try.prog 58 [.agg [.v (.int .i64 l.many), .v (.int .i64 l.each), .v (.int .i64 l.amount)]] (.ob 0 (allL l).length) [.row 94 3 ((allL l).map lnR) false] := by
  refine spec_go (N := 58) (rs := [.tmp 2]) (eq := eqs) rfl rfl fun_58 rfl (by kernel_rfl) (by kernel_rfl) (by simp) (by simp) (by simp) (by simp) fun R hR => ?_
  simp (maxSteps := 2000000) only [vcA, ↓vcP, ↓reduceIte, reduceCtorEq, Nat.reduceAdd, Nat.reduceMul, Nat.reduceSub, Nat.reduceLT, Nat.reduceLeDiff, Nat.reduceEqDiff, Nat.reduceBEq, Nat.reduceBNe, Nat.reduceGT, Nat.reduceDiv, Nat.reduceMod, Int.reduceAdd, Int.reduceSub, Int.reduceNeg, Int.reduceLT, Int.reduceLE, Int.reduceEq, Int.reduceToNat, fA]
  refine goC_loop (α := {m : Nat // m ≤ 51}) (fun x => ⟨[(1, .ptr 8 0), (3, .ob 48 (allT l x.1).length), (4, .v (.int .i64 x.1))], [(8, .box 94 [.v (.int .i64 l.many), .v (.int .i64 l.each), .v (.int .i64 l.amount)]), (48, .row 94 3 ((allT l x.1).map lnR) false)]⟩) (fun x => 51 - x.1) ⟨0, by omega⟩ [some 24] ?_ ?_
  · simp (maxSteps := 2000000) only [enA, ↓enP, Nat.reduceAdd, Nat.reduceMul, Nat.reduceSub, Nat.reduceLT, Nat.reduceLeDiff, Nat.reduceEqDiff, Nat.reduceBEq, ↓reduceIte, reduceCtorEq, fA, allT]
    exact ⟨⟨rfl, rfl⟩, rfl⟩
  intro x B hB
  obtain ⟨m, hm⟩ := x
  simp only at hB ⊢
  have tl := allT_len l m
  by_cases c : m ≤ 50
  · have p1 : ((m : Int) ≤ 50) = True := eq_true (by omega)
    have em : IntKind.i64.wrap ((m : Int) + 1) = ((m + 1 : Nat) : Int) := wrap_id (by omega) (by omega)
    simp (maxSteps := 2000000) only [vcA, ↓vcP, ↓reduceIte, reduceCtorEq, Nat.reduceAdd, Nat.reduceMul, Nat.reduceSub, Nat.reduceLT, Nat.reduceLeDiff, Nat.reduceEqDiff, Nat.reduceBEq, Nat.reduceBNe, Nat.reduceGT, Nat.reduceDiv, Nat.reduceMod, Int.reduceAdd, Int.reduceSub, Int.reduceNeg, Int.reduceLT, Int.reduceLE, Int.reduceEq, Int.reduceToNat, fA, p1]
    refine goC_loop (α := {e : Nat // e ≤ 51}) (fun x => ⟨[(1, .ptr 8 0), (3, .ob 104 (preL l m x.1).length), (4, .v (.int .i64 m)), (5, .v (.int .i64 x.1))], [(8, .box 94 [.v (.int .i64 l.many), .v (.int .i64 l.each), .v (.int .i64 l.amount)]), (104, .row 94 3 ((preL l m x.1).map lnR) false)]⟩) (fun x => 51 - x.1) ⟨0, by omega⟩ [some 48] ?_ ?_
    · have e0 : preL l m 0 = allT l m := by simp [preL, rowT]
      simp (maxSteps := 2000000) only [enA, ↓enP, Nat.reduceAdd, Nat.reduceMul, Nat.reduceSub, Nat.reduceLT, Nat.reduceLeDiff, Nat.reduceEqDiff, Nat.reduceBEq, ↓reduceIte, reduceCtorEq, fA, e0]
      try rfl
    intro x B2 hB2
    obtain ⟨e, he⟩ := x
    simp only at hB2 ⊢
    have rl := rowT_len l m e
    have pl : (preL l m e).length ≤ 51 * m + e := by unfold preL; rw [List.length_append]; omega
    by_cases c2 : e ≤ 50
    · have p2 : ((e : Int) ≤ 50) = True := eq_true (by omega)
      have ee : IntKind.i64.wrap ((e : Int) + 1) = ((e + 1 : Nat) : Int) := wrap_id (by omega) (by omega)
      have hme := mul_bound (a := (m : Int)) (b := (e : Int)) (m := 50) (k := 50) (by omega) (by omega)
      have w1 : IntKind.i64.wrap ((m : Int) * (e : Int)) = (m : Int) * e := wrap_id (by omega) (by omega)
      have hf : fitL l (cand m e) = ((l.many == -1 || l.many == (m : Int)) && ((l.each == -1 || l.each == (e : Int)) && (l.amount == -1 || l.amount == (m : Int) * e))) := rfl
      have hp : fitL l (cand m e) = true → preL l m (e + 1) = preL l m e ++ [cand m e] := fun h => by unfold preL; rw [rowT_succ, if_pos h, List.append_assoc]
      have hq : fitL l (cand m e) = false → preL l m (e + 1) = preL l m e := preL_not
      rw [hf] at hp hq
      cases a1 : (l.many == -1) <;> cases a2 : (l.many == (m : Int)) <;> cases b1 : (l.each == -1) <;> cases b2 : (l.each == (e : Int)) <;> cases c1 : (l.amount == -1) <;> cases c2' : (l.amount == (m : Int) * e) <;> rw [a1, a2, b1, b2, c1, c2'] at hp hq <;> first
        | (have es := hq rfl
           clear hp hq
           simp (maxSteps := 2000000) only [vcA, ↓vcP, ↓reduceIte, reduceCtorEq, Nat.reduceAdd, Nat.reduceMul, Nat.reduceSub, Nat.reduceLT, Nat.reduceLeDiff, Nat.reduceEqDiff, Nat.reduceBEq, Nat.reduceBNe, Nat.reduceGT, Nat.reduceDiv, Nat.reduceMod, Int.reduceAdd, Int.reduceSub, Int.reduceNeg, Int.reduceLT, Int.reduceLE, Int.reduceEq, Int.reduceToNat, fA, p2, w1, a1, a2, b1, b2, c1, c2']
           refine hB2 _ ⟨e + 1, by omega⟩ [some 104] (by simp only; omega) rfl ?_
           simp (maxSteps := 2000000) only [enA, ↓enP, Nat.reduceAdd, Nat.reduceMul, Nat.reduceSub, Nat.reduceLT, Nat.reduceLeDiff, Nat.reduceEqDiff, Nat.reduceBEq, ↓reduceIte, reduceCtorEq, fA, ee, es])
        | (have es := hp rfl
           clear hp hq
           simp (maxSteps := 2000000) only [vcA, ↓vcP, ↓reduceIte, reduceCtorEq, Nat.reduceAdd, Nat.reduceMul, Nat.reduceSub, Nat.reduceLT, Nat.reduceLeDiff, Nat.reduceEqDiff, Nat.reduceBEq, Nat.reduceBNe, Nat.reduceGT, Nat.reduceDiv, Nat.reduceMod, Int.reduceAdd, Int.reduceSub, Int.reduceNeg, Int.reduceLT, Int.reduceLE, Int.reduceEq, Int.reduceToNat, fA, p2, w1, a1, a2, b1, b2, c1, c2']
           refine ⟨⟨by omega, by simp only [maxLen]; omega⟩, fun _ => ?_⟩
           refine hB2 _ ⟨e + 1, by omega⟩ [some 480] (by simp only; omega) rfl ?_
           simp (maxSteps := 2000000) only [enA, ↓enP, Nat.reduceAdd, Nat.reduceMul, Nat.reduceSub, Nat.reduceLT, Nat.reduceLeDiff, Nat.reduceEqDiff, Nat.reduceBEq, ↓reduceIte, reduceCtorEq, fA, ee, es, List.map_append, List.length_append, lnR, cand])
    obtain rfl : e = 51 := by omega
    have p2 : (((51 : Nat) : Int) ≤ 50) = False := eq_false (by omega)
    have p2' : ((51 : Int) ≤ 50) = False := eq_false (by omega)
    have es := preL_end l m
    simp (maxSteps := 2000000) only [vcA, ↓vcP, ↓reduceIte, reduceCtorEq, Nat.reduceAdd, Nat.reduceMul, Nat.reduceSub, Nat.reduceLT, Nat.reduceLeDiff, Nat.reduceEqDiff, Nat.reduceBEq, Nat.reduceBNe, Nat.reduceGT, Nat.reduceDiv, Nat.reduceMod, Int.reduceAdd, Int.reduceSub, Int.reduceNeg, Int.reduceLT, Int.reduceLE, Int.reduceEq, Int.reduceToNat, fA, p2, p2']
    refine hB _ ⟨m + 1, by omega⟩ [some 104] (by simp only; omega) rfl ?_
    simp (maxSteps := 2000000) only [enA, ↓enP, Nat.reduceAdd, Nat.reduceMul, Nat.reduceSub, Nat.reduceLT, Nat.reduceLeDiff, Nat.reduceEqDiff, Nat.reduceBEq, ↓reduceIte, reduceCtorEq, fA, em, es]
    try rfl
  obtain rfl : m = 51 := by omega
  have p1 : (((51 : Nat) : Int) ≤ 50) = False := eq_false (by omega)
  have p1' : ((51 : Int) ≤ 50) = False := eq_false (by omega)
  have eb : allT l 51 = allL l := rfl
  simp (maxSteps := 2000000) only [vcA, ↓vcP, ↓reduceIte, reduceCtorEq, Nat.reduceAdd, Nat.reduceMul, Nat.reduceSub, Nat.reduceLT, Nat.reduceLeDiff, Nat.reduceEqDiff, Nat.reduceBEq, Nat.reduceBNe, Nat.reduceGT, Nat.reduceDiv, Nat.reduceMod, Int.reduceAdd, Int.reduceSub, Int.reduceNeg, Int.reduceLT, Int.reduceLE, Int.reduceEq, Int.reduceToNat, fA, p1, p1']
  refine hR _ (fin_of1 [some 48] ?_)
  simp (maxSteps := 2000000) only [enA, ↓enP, Nat.reduceAdd, Nat.reduceMul, Nat.reduceSub, Nat.reduceLT, Nat.reduceLeDiff, Nat.reduceEqDiff, Nat.reduceBEq, ↓reduceIte, reduceCtorEq, fA, eb]
theorem line_spec (l : Ln) : SpecF Try.prog 58 [.agg [.v (.int .i64 l.many), .v (.int .i64 l.each), .v (.int .i64 l.amount)]] (.sl 3 ((allL l).map lnR)) [] := (line0_spec l).frz
end Go.Proofs.Ytmjnlcfnaoloeaa.Ab.T12
