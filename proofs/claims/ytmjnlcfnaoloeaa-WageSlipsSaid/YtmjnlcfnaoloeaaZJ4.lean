/- Which works pay just so much: the walk. -/
import Derived.Test.YtmjnlcfnaoloeaaZJ1
namespace Go.Proofs.Ytmjnlcfnaoloeaa.Ab.T12
open Go Go.RowKit
set_option linter.unusedVariables false
set_option linter.unusedSimpArgs false
set_option maxRecDepth 100000
set_option maxHeartbeats 8000000 in
theorem makes_spec (r : Rate) (w b : Int) : SpecF Try.prog 4 [.agg [.sl 2 (r.steps.map sR), .v (.int .i64 r.piece), .v (.int .i64 r.fine)], .v (.int .i64 w), .v (.int .i64 b)] (.v (.bool true)) [] := by
  have be : ∀ n : Int, (n == n) = true := fun n => by simp
  have g0 : ((0 : Int) == 0) = true := rfl
  have g1 : ((0 : Int) != 0) = false := rfl
  refine spec_go (N := 157) (rs := [.tmp 6]) (eq := eqs) rfl rfl fun_4 rfl (by kernel_rfl) (by kernel_rfl) (by simp) (by simp) (by simp) (by simp) fun R hR => ?_
  by_cases c0 : 20 < r.steps.length
  · have q0 : ((r.steps.length : Int) > 20) = True := eq_true (by omega)
    simp (maxSteps := 2000000) only [vcA, ↓vcP, ↓reduceIte, reduceCtorEq, Nat.reduceAdd, Nat.reduceMul, Nat.reduceSub, Nat.reduceLT, Nat.reduceLeDiff, Nat.reduceEqDiff, Nat.reduceBEq, Nat.reduceBNe, Nat.reduceGT, Nat.reduceDiv, Nat.reduceMod, Int.reduceAdd, Int.reduceSub, Int.reduceNeg, Int.reduceLT, Int.reduceLE, Int.reduceEq, Int.reduceToNat, fA, q0]
    refine onF_data known_spec ?_ ?_
    · simp (maxSteps := 2000000) only [okA, ↓okP, Nat.reduceAdd, Nat.reduceMul, Nat.reduceSub, Nat.reduceLT, Nat.reduceLeDiff, Nat.reduceEqDiff, Nat.reduceBEq, ↓reduceIte, reduceCtorEq]
    simp (maxSteps := 2000000) only [vcA, ↓vcP, ↓reduceIte, reduceCtorEq, Nat.reduceAdd, Nat.reduceMul, Nat.reduceSub, Nat.reduceLT, Nat.reduceLeDiff, Nat.reduceEqDiff, Nat.reduceBEq, Nat.reduceBNe, Nat.reduceGT, Nat.reduceDiv, Nat.reduceMod, Int.reduceAdd, Int.reduceSub, Int.reduceNeg, Int.reduceLT, Int.reduceLE, Int.reduceEq, Int.reduceToNat, fA]
    refine hR _ (fin_of0 ?_)
    simp (maxSteps := 2000000) only [enA, ↓enP, Nat.reduceAdd, Nat.reduceMul, Nat.reduceSub, Nat.reduceLT, Nat.reduceLeDiff, Nat.reduceEqDiff, Nat.reduceBEq, ↓reduceIte, reduceCtorEq, fA]
  have q0 : ((r.steps.length : Int) > 20) = False := eq_false (by omega)
  simp (maxSteps := 2000000) only [vcA, ↓vcP, ↓reduceIte, reduceCtorEq, Nat.reduceAdd, Nat.reduceMul, Nat.reduceSub, Nat.reduceLT, Nat.reduceLeDiff, Nat.reduceEqDiff, Nat.reduceBEq, Nat.reduceBNe, Nat.reduceGT, Nat.reduceDiv, Nat.reduceMod, Int.reduceAdd, Int.reduceSub, Int.reduceNeg, Int.reduceLT, Int.reduceLE, Int.reduceEq, Int.reduceToNat, fA, q0]
  refine onF_data (own_spec r (by omega)) ?_ ?_
  · simp (maxSteps := 2000000) only [okA, ↓okP, Nat.reduceAdd, Nat.reduceMul, Nat.reduceSub, Nat.reduceLT, Nat.reduceLeDiff, Nat.reduceEqDiff, Nat.reduceBEq, ↓reduceIte, reduceCtorEq]
  simp (maxSteps := 2000000) only [vcA, ↓vcP, ↓reduceIte, reduceCtorEq, Nat.reduceAdd, Nat.reduceMul, Nat.reduceSub, Nat.reduceLT, Nat.reduceLeDiff, Nat.reduceEqDiff, Nat.reduceBEq, Nat.reduceBNe, Nat.reduceGT, Nat.reduceDiv, Nat.reduceMod, Int.reduceAdd, Int.reduceSub, Int.reduceNeg, Int.reduceLT, Int.reduceLE, Int.reduceEq, Int.reduceToNat, fA]
  refine onF_data (made_spec r w b) ?_ ?_
  · simp (maxSteps := 2000000) only [okA, ↓okP, Nat.reduceAdd, Nat.reduceMul, Nat.reduceSub, Nat.reduceLT, Nat.reduceLeDiff, Nat.reduceEqDiff, Nat.reduceBEq, ↓reduceIte, reduceCtorEq]
  have hbad : ∀ E, madeErr r w b = E → E ≠ 0 → madeL r w b = [] := fun E h1 h2 => by unfold madeL; rw [if_neg (by rw [h1]; exact h2)]
  by_cases h0 : openErr r ≠ 0
  · have g3 : (openErr r == 0) = false := by rw [beq_eq_false_iff_ne]; exact h0
    have g4 : (openErr r != 0) = true := by simpa using h0
    have e : madeErr r w b = openErr r := if_pos h0
    rw [hbad _ e h0, e]
    simp (maxSteps := 2000000) only [vcA, ↓vcP, ↓reduceIte, reduceCtorEq, Nat.reduceAdd, Nat.reduceMul, Nat.reduceSub, Nat.reduceLT, Nat.reduceLeDiff, Nat.reduceEqDiff, Nat.reduceBEq, Nat.reduceBNe, Nat.reduceGT, Nat.reduceDiv, Nat.reduceMod, Int.reduceAdd, Int.reduceSub, Int.reduceNeg, Int.reduceLT, Int.reduceLE, Int.reduceEq, Int.reduceToNat, fA, firstW]
    refine onF_data (like_spec r (by omega)) ?_ ?_
    · simp (maxSteps := 2000000) only [okA, ↓okP, Nat.reduceAdd, Nat.reduceMul, Nat.reduceSub, Nat.reduceLT, Nat.reduceLeDiff, Nat.reduceEqDiff, Nat.reduceBEq, ↓reduceIte, reduceCtorEq]
    simp (maxSteps := 2000000) only [vcA, ↓vcP, ↓reduceIte, reduceCtorEq, Nat.reduceAdd, Nat.reduceMul, Nat.reduceSub, Nat.reduceLT, Nat.reduceLeDiff, Nat.reduceEqDiff, Nat.reduceBEq, Nat.reduceBNe, Nat.reduceGT, Nat.reduceDiv, Nat.reduceMod, Int.reduceAdd, Int.reduceSub, Int.reduceNeg, Int.reduceLT, Int.reduceLE, Int.reduceEq, Int.reduceToNat, fA]
    refine onF_data (refcheck_spec r (by omega)) ?_ ?_
    · simp (maxSteps := 2000000) only [okA, ↓okP, Nat.reduceAdd, Nat.reduceMul, Nat.reduceSub, Nat.reduceLT, Nat.reduceLeDiff, Nat.reduceEqDiff, Nat.reduceBEq, ↓reduceIte, reduceCtorEq]
    simp (maxSteps := 2000000) only [vcA, ↓vcP, ↓reduceIte, reduceCtorEq, Nat.reduceAdd, Nat.reduceMul, Nat.reduceSub, Nat.reduceLT, Nat.reduceLeDiff, Nat.reduceEqDiff, Nat.reduceBEq, Nat.reduceBNe, Nat.reduceGT, Nat.reduceDiv, Nat.reduceMod, Int.reduceAdd, Int.reduceSub, Int.reduceNeg, Int.reduceLT, Int.reduceLE, Int.reduceEq, Int.reduceToNat, fA, g0, g3, g4, be, eqs, eqt_work, all3, kO3]
    refine onF_data known_spec ?_ ?_
    · simp (maxSteps := 2000000) only [okA, ↓okP, Nat.reduceAdd, Nat.reduceMul, Nat.reduceSub, Nat.reduceLT, Nat.reduceLeDiff, Nat.reduceEqDiff, Nat.reduceBEq, ↓reduceIte, reduceCtorEq]
    simp (maxSteps := 2000000) only [vcA, ↓vcP, ↓reduceIte, reduceCtorEq, Nat.reduceAdd, Nat.reduceMul, Nat.reduceSub, Nat.reduceLT, Nat.reduceLeDiff, Nat.reduceEqDiff, Nat.reduceBEq, Nat.reduceBNe, Nat.reduceGT, Nat.reduceDiv, Nat.reduceMod, Int.reduceAdd, Int.reduceSub, Int.reduceNeg, Int.reduceLT, Int.reduceLE, Int.reduceEq, Int.reduceToNat, fA]
    refine hR _ (fin_of0 ?_)
    simp (maxSteps := 2000000) only [enA, ↓enP, Nat.reduceAdd, Nat.reduceMul, Nat.reduceSub, Nat.reduceLT, Nat.reduceLeDiff, Nat.reduceEqDiff, Nat.reduceBEq, ↓reduceIte, reduceCtorEq, fA]
  have h0 : openErr r = 0 := Classical.byContradiction h0
  have hok := (openErr_ok h0).1
  have hl := hok.len
  cases hb : betw 0 1000 [b] with
  | false =>
    have g3 : ((3 : Int) == 0) = false := rfl
    have g4 : ((3 : Int) != 0) = true := rfl
    have e : madeErr r w b = 3 := by unfold madeErr; rw [if_neg (by rw [h0]; simp), hb]; rfl
    rw [hbad _ e (by decide), e]
    simp (maxSteps := 2000000) only [vcA, ↓vcP, ↓reduceIte, reduceCtorEq, Nat.reduceAdd, Nat.reduceMul, Nat.reduceSub, Nat.reduceLT, Nat.reduceLeDiff, Nat.reduceEqDiff, Nat.reduceBEq, Nat.reduceBNe, Nat.reduceGT, Nat.reduceDiv, Nat.reduceMod, Int.reduceAdd, Int.reduceSub, Int.reduceNeg, Int.reduceLT, Int.reduceLE, Int.reduceEq, Int.reduceToNat, fA, firstW]
    refine onF_data (like_spec r (by omega)) ?_ ?_
    · simp (maxSteps := 2000000) only [okA, ↓okP, Nat.reduceAdd, Nat.reduceMul, Nat.reduceSub, Nat.reduceLT, Nat.reduceLeDiff, Nat.reduceEqDiff, Nat.reduceBEq, ↓reduceIte, reduceCtorEq]
    simp (maxSteps := 2000000) only [vcA, ↓vcP, ↓reduceIte, reduceCtorEq, Nat.reduceAdd, Nat.reduceMul, Nat.reduceSub, Nat.reduceLT, Nat.reduceLeDiff, Nat.reduceEqDiff, Nat.reduceBEq, Nat.reduceBNe, Nat.reduceGT, Nat.reduceDiv, Nat.reduceMod, Int.reduceAdd, Int.reduceSub, Int.reduceNeg, Int.reduceLT, Int.reduceLE, Int.reduceEq, Int.reduceToNat, fA]
    refine onF_data (refcheck_spec r (by omega)) ?_ ?_
    · simp (maxSteps := 2000000) only [okA, ↓okP, Nat.reduceAdd, Nat.reduceMul, Nat.reduceSub, Nat.reduceLT, Nat.reduceLeDiff, Nat.reduceEqDiff, Nat.reduceBEq, ↓reduceIte, reduceCtorEq]
    rw [h0]
    simp (maxSteps := 2000000) only [vcA, ↓vcP, ↓reduceIte, reduceCtorEq, Nat.reduceAdd, Nat.reduceMul, Nat.reduceSub, Nat.reduceLT, Nat.reduceLeDiff, Nat.reduceEqDiff, Nat.reduceBEq, Nat.reduceBNe, Nat.reduceGT, Nat.reduceDiv, Nat.reduceMod, Int.reduceAdd, Int.reduceSub, Int.reduceNeg, Int.reduceLT, Int.reduceLE, Int.reduceEq, Int.reduceToNat, fA, g0]
    refine onF_data (in_spec b 0 1000) ?_ ?_
    · simp (maxSteps := 2000000) only [okA, ↓okP, Nat.reduceAdd, Nat.reduceMul, Nat.reduceSub, Nat.reduceLT, Nat.reduceLeDiff, Nat.reduceEqDiff, Nat.reduceBEq, ↓reduceIte, reduceCtorEq]
    rw [hb]
    simp (maxSteps := 2000000) only [vcA, ↓vcP, ↓reduceIte, reduceCtorEq, Nat.reduceAdd, Nat.reduceMul, Nat.reduceSub, Nat.reduceLT, Nat.reduceLeDiff, Nat.reduceEqDiff, Nat.reduceBEq, Nat.reduceBNe, Nat.reduceGT, Nat.reduceDiv, Nat.reduceMod, Int.reduceAdd, Int.reduceSub, Int.reduceNeg, Int.reduceLT, Int.reduceLE, Int.reduceEq, Int.reduceToNat, fA, g0, g1, g3, g4, be, eqs, eqt_work, all3, kO3]
    refine onF_data known_spec ?_ ?_
    · simp (maxSteps := 2000000) only [okA, ↓okP, Nat.reduceAdd, Nat.reduceMul, Nat.reduceSub, Nat.reduceLT, Nat.reduceLeDiff, Nat.reduceEqDiff, Nat.reduceBEq, ↓reduceIte, reduceCtorEq]
    simp (maxSteps := 2000000) only [vcA, ↓vcP, ↓reduceIte, reduceCtorEq, Nat.reduceAdd, Nat.reduceMul, Nat.reduceSub, Nat.reduceLT, Nat.reduceLeDiff, Nat.reduceEqDiff, Nat.reduceBEq, Nat.reduceBNe, Nat.reduceGT, Nat.reduceDiv, Nat.reduceMod, Int.reduceAdd, Int.reduceSub, Int.reduceNeg, Int.reduceLT, Int.reduceLE, Int.reduceEq, Int.reduceToNat, fA]
    refine hR _ (fin_of0 ?_)
    simp (maxSteps := 2000000) only [enA, ↓enP, Nat.reduceAdd, Nat.reduceMul, Nat.reduceSub, Nat.reduceLT, Nat.reduceLeDiff, Nat.reduceEqDiff, Nat.reduceBEq, ↓reduceIte, reduceCtorEq, fA]
  | true =>
  have hbb := betw1 hb
  -- what Made gave, as three numbers
  obtain ⟨f1, f2, f3, hf⟩ : ∃ f1 f2 f3 : Int, firstW b (madeL r w b) = [.v (.int .i64 f1), .v (.int .i64 f2), .v (.int .i64 f3)] := by
    cases madeL r w b with
    | nil => exact ⟨_, _, _, rfl⟩
    | cons x l => exact ⟨_, _, _, rfl⟩
  rw [hf]
  simp (maxSteps := 2000000) only [vcA, ↓vcP, ↓reduceIte, reduceCtorEq, Nat.reduceAdd, Nat.reduceMul, Nat.reduceSub, Nat.reduceLT, Nat.reduceLeDiff, Nat.reduceEqDiff, Nat.reduceBEq, Nat.reduceBNe, Nat.reduceGT, Nat.reduceDiv, Nat.reduceMod, Int.reduceAdd, Int.reduceSub, Int.reduceNeg, Int.reduceLT, Int.reduceLE, Int.reduceEq, Int.reduceToNat, fA]
  refine onF_data (like_spec r (by omega)) ?_ ?_
  · simp (maxSteps := 2000000) only [okA, ↓okP, Nat.reduceAdd, Nat.reduceMul, Nat.reduceSub, Nat.reduceLT, Nat.reduceLeDiff, Nat.reduceEqDiff, Nat.reduceBEq, ↓reduceIte, reduceCtorEq]
  simp (maxSteps := 2000000) only [vcA, ↓vcP, ↓reduceIte, reduceCtorEq, Nat.reduceAdd, Nat.reduceMul, Nat.reduceSub, Nat.reduceLT, Nat.reduceLeDiff, Nat.reduceEqDiff, Nat.reduceBEq, Nat.reduceBNe, Nat.reduceGT, Nat.reduceDiv, Nat.reduceMod, Int.reduceAdd, Int.reduceSub, Int.reduceNeg, Int.reduceLT, Int.reduceLE, Int.reduceEq, Int.reduceToNat, fA]
  refine onF_data (refcheck_spec r (by omega)) ?_ ?_
  · simp (maxSteps := 2000000) only [okA, ↓okP, Nat.reduceAdd, Nat.reduceMul, Nat.reduceSub, Nat.reduceLT, Nat.reduceLeDiff, Nat.reduceEqDiff, Nat.reduceBEq, ↓reduceIte, reduceCtorEq]
  rw [h0]
  simp (maxSteps := 2000000) only [vcA, ↓vcP, ↓reduceIte, reduceCtorEq, Nat.reduceAdd, Nat.reduceMul, Nat.reduceSub, Nat.reduceLT, Nat.reduceLeDiff, Nat.reduceEqDiff, Nat.reduceBEq, Nat.reduceBNe, Nat.reduceGT, Nat.reduceDiv, Nat.reduceMod, Int.reduceAdd, Int.reduceSub, Int.reduceNeg, Int.reduceLT, Int.reduceLE, Int.reduceEq, Int.reduceToNat, fA, g0]
  refine onF_data (in_spec b 0 1000) ?_ ?_
  · simp (maxSteps := 2000000) only [okA, ↓okP, Nat.reduceAdd, Nat.reduceMul, Nat.reduceSub, Nat.reduceLT, Nat.reduceLeDiff, Nat.reduceEqDiff, Nat.reduceBEq, ↓reduceIte, reduceCtorEq]
  rw [hb]
  simp (maxSteps := 2000000) only [vcA, ↓vcP, ↓reduceIte, reduceCtorEq, Nat.reduceAdd, Nat.reduceMul, Nat.reduceSub, Nat.reduceLT, Nat.reduceLeDiff, Nat.reduceEqDiff, Nat.reduceBEq, Nat.reduceBNe, Nat.reduceGT, Nat.reduceDiv, Nat.reduceMod, Int.reduceAdd, Int.reduceSub, Int.reduceNeg, Int.reduceLT, Int.reduceLE, Int.reduceEq, Int.reduceToNat, fA, g0, g1]
  refine goC_loop (α := {d : Nat // d ≤ 1001}) (fun y => ⟨[(1, .v (.int .i64 w)), (2, .v (.int .i64 b)), (3, .ptr 8 0), (8, .v (.int .i64 (madeL r w b).length)), (9, .ptr 152 0), (10, .v (.int .i64 (madeErr r w b))), (11, .v (.int .i64 0)), (12, .v (.int .i64 (hitT r w b y.1).length)), (13, .ptr 304 0), (14, .v (.int .i64 (doz r (y.1 - 1 : Nat)))), (15, .v (.int .i64 y.1))], [(8, .box 24 [.sl 2 (r.steps.map sR), .v (.int .i64 r.piece), .v (.int .i64 r.fine)]), (152, .box 34 [.v (.int .i64 f1), .v (.int .i64 f2), .v (.int .i64 f3)]), (304, .box 34 (firstW b (hitT r w b y.1)))]⟩) (fun y => 1001 - y.1) ⟨0, by omega⟩ [] ?_ ?_
  · have e1 : hitT r w b 0 = [] := rfl
    have e2 : doz r ((0 - 1 : Nat) : Int) = 0 := doz_zero r hok
    simp (maxSteps := 2000000) only [enA, ↓enP, Nat.reduceAdd, Nat.reduceMul, Nat.reduceSub, Nat.reduceLT, Nat.reduceLeDiff, Nat.reduceEqDiff, Nat.reduceBEq, ↓reduceIte, reduceCtorEq, fA, e1, e2, firstW]
    try rfl
  intro y B hB
  obtain ⟨d, hd⟩ := y
  simp only at hB ⊢
  have tl := hitT_len r w b d
  by_cases cd : d ≤ 1000
  · have p1 : ((d : Int) ≤ 1000) = True := eq_true (by omega)
    have ed : IntKind.i64.wrap ((d : Int) + 1) = ((d + 1 : Nat) : Int) := wrap_id (by omega) (by omega)
    have db := doz_bound hok (n := (d : Int)) (by omega)
    by_cases d0 : d = 0
    · have k0 : ((d : Int) > 0) = False := eq_false (by omega)
      have k0' : (d > 0) = False := eq_false (by omega)
      have em : ((d - 1 : Nat) : Int) = (d : Int) := by omega
      rw [em]
      simp (maxSteps := 2000000) only [vcA, ↓vcP, ↓reduceIte, reduceCtorEq, Nat.reduceAdd, Nat.reduceMul, Nat.reduceSub, Nat.reduceLT, Nat.reduceLeDiff, Nat.reduceEqDiff, Nat.reduceBEq, Nat.reduceBNe, Nat.reduceGT, Nat.reduceDiv, Nat.reduceMod, Int.reduceAdd, Int.reduceSub, Int.reduceNeg, Int.reduceLT, Int.reduceLE, Int.reduceEq, Int.reduceToNat, fA, p1, k0, k0']
      refine goC_loop (α := {p : Nat // p ≤ 12}) (fun y => ⟨[(1, .v (.int .i64 w)), (2, .v (.int .i64 b)), (3, .ptr 8 0), (8, .v (.int .i64 (madeL r w b).length)), (9, .ptr 152 0), (10, .v (.int .i64 (madeErr r w b))), (11, .v (.int .i64 0)), (12, .v (.int .i64 (hitP r w b d y.1).length)), (13, .ptr 304 0), (14, .v (.int .i64 (doz r (d : Nat)))), (15, .v (.int .i64 (d : Nat))), (17, .v (.int .i64 y.1))], [(8, .box 24 [.sl 2 (r.steps.map sR), .v (.int .i64 r.piece), .v (.int .i64 r.fine)]), (152, .box 34 [.v (.int .i64 f1), .v (.int .i64 f2), .v (.int .i64 f3)]), (304, .box 34 (firstW b (hitP r w b d y.1)))]⟩) (fun y => 12 - y.1) ⟨0, by omega⟩ [] ?_ ?_
      · have e1 : hitP r w b d 0 = hitT r w b d := by simp [hitP, hitR]
        skip
        simp (maxSteps := 2000000) only [enA, ↓enP, Nat.reduceAdd, Nat.reduceMul, Nat.reduceSub, Nat.reduceLT, Nat.reduceLeDiff, Nat.reduceEqDiff, Nat.reduceBEq, ↓reduceIte, reduceCtorEq, fA, e1, firstW_self]
        try rfl
      intro y B2 hB2
      obtain ⟨p, hp⟩ := y
      simp only at hB2 ⊢
      have pl : (hitP r w b d p).length ≤ 12 * d + p := by
        have := hitR_len r w b d p
        unfold hitP
        rw [List.length_append]
        omega
      have hsu : ∀ c, (wageOf r ((d : Nat) : Int) (p : Int) b == w) = c → hitP r w b d (p + 1) = hitP r w b d p ++ if c = true then [(d, p)] else [] := fun c h => by
        unfold hitP
        rw [hitR_succ, h, List.append_assoc]
      by_cases cp : p < 12
      · have p2 : ((p : Int) < 12) = True := eq_true (by omega)
        have p2' : (p < 12) = True := eq_true cp
        have ep : IntKind.i64.wrap ((p : Int) + 1) = ((p + 1 : Nat) : Int) := wrap_id (by omega) (by omega)
        have en : IntKind.i64.wrap (((hitP r w b d p).length : Int) + 1) = (((hitP r w b d p).length + 1 : Nat) : Int) := wrap_id (by omega) (by omega)
        have m1 := mul_bound (a := (p : Int)) (m := 12) (by omega) hok.piece
        have m2 := mul_bound hbb hok.fine
        have w1 : IntKind.i64.wrap ((p : Int) * r.piece) = (p : Int) * r.piece := wrap_id (by omega) (by omega)
        have w2 : IntKind.i64.wrap (b * r.fine) = b * r.fine := wrap_id (by omega) (by omega)
        have w3 : IntKind.i64.wrap (doz r ((d : Nat) : Int) + (p : Int) * r.piece) = doz r ((d : Nat) : Int) + (p : Int) * r.piece := wrap_id (by omega) (by omega)
        have w4 : IntKind.i64.wrap (doz r ((d : Nat) : Int) + (p : Int) * r.piece - b * r.fine) = doz r ((d : Nat) : Int) + (p : Int) * r.piece - b * r.fine := wrap_id (by omega) (by omega)
        have ew : max 0 (doz r ((d : Nat) : Int) + (p : Int) * r.piece - b * r.fine) = wageOf r ((d : Nat) : Int) p b := rfl
        cases hw : (wageOf r ((d : Nat) : Int) (p : Int) b == w) with
        | false =>
          have hs := hsu _ hw
          rw [if_neg (by simp), List.append_nil] at hs
          simp (maxSteps := 2000000) only [vcA, ↓vcP, ↓reduceIte, reduceCtorEq, Nat.reduceAdd, Nat.reduceMul, Nat.reduceSub, Nat.reduceLT, Nat.reduceLeDiff, Nat.reduceEqDiff, Nat.reduceBEq, Nat.reduceBNe, Nat.reduceGT, Nat.reduceDiv, Nat.reduceMod, Int.reduceAdd, Int.reduceSub, Int.reduceNeg, Int.reduceLT, Int.reduceLE, Int.reduceEq, Int.reduceToNat, fA, p2, p2', w1, w2, w3, w4, ew, hw]
          refine hB2 _ ⟨p + 1, by omega⟩ [] (by simp only; omega) rfl ?_
          simp (maxSteps := 2000000) only [enA, ↓enP, Nat.reduceAdd, Nat.reduceMul, Nat.reduceSub, Nat.reduceLT, Nat.reduceLeDiff, Nat.reduceEqDiff, Nat.reduceBEq, ↓reduceIte, reduceCtorEq, fA, ep, hs, firstW_self]
        | true =>
          have hs := hsu _ hw
          rw [if_pos rfl] at hs
          have el : (hitP r w b d (p + 1)).length = (hitP r w b d p).length + 1 := by rw [hs]; simp
          by_cases hn : hitP r w b d p = []
          · have f1' : firstW b (hitP r w b d (p + 1)) = [.v (.int .i64 (d : Nat)), .v (.int .i64 p), .v (.int .i64 b)] := by rw [hs, hn]; rfl
            have l0 : (hitP r w b d p).length = 0 := by rw [hn]; rfl
            have f0 : firstW b (hitP r w b d p) = [.v (.int .i64 0), .v (.int .i64 0), .v (.int .i64 0)] := by rw [hn]; rfl
            have en0 : IntKind.i64.wrap 1 = 1 := by decide
            have en1 : IntKind.i64.wrap (0 + 1) = 1 := by decide
            have p4 : ((1 : Int) == 1) = true := rfl
            rw [l0] at el
            rw [l0, f0]
            simp (maxSteps := 2000000) only [vcA, ↓vcP, ↓reduceIte, reduceCtorEq, Nat.reduceAdd, Nat.reduceMul, Nat.reduceSub, Nat.reduceLT, Nat.reduceLeDiff, Nat.reduceEqDiff, Nat.reduceBEq, Nat.reduceBNe, Nat.reduceGT, Nat.reduceDiv, Nat.reduceMod, Int.reduceAdd, Int.reduceSub, Int.reduceNeg, Int.reduceLT, Int.reduceLE, Int.reduceEq, Int.reduceToNat, fA, p2, p2', w1, w2, w3, w4, ew, hw, en0, en1, p4]
            refine hB2 _ ⟨p + 1, by omega⟩ [] (by simp only; omega) rfl ?_
            simp (maxSteps := 2000000) only [enA, ↓enP, Nat.reduceAdd, Nat.reduceMul, Nat.reduceSub, Nat.reduceLT, Nat.reduceLeDiff, Nat.reduceEqDiff, Nat.reduceBEq, ↓reduceIte, reduceCtorEq, fA, ep, el, f1']
            try rfl
          · have f1' : firstW b (hitP r w b d (p + 1)) = firstW b (hitP r w b d p) := by rw [hs]; exact firstW_app b hn _
            have hpos : 0 < (hitP r w b d p).length := List.length_pos_iff.2 hn
            have p4 : ((((hitP r w b d p).length + 1 : Nat) : Int) == 1) = false := by rw [beq_eq_false_iff_ne]; omega
            simp (maxSteps := 2000000) only [vcA, ↓vcP, ↓reduceIte, reduceCtorEq, Nat.reduceAdd, Nat.reduceMul, Nat.reduceSub, Nat.reduceLT, Nat.reduceLeDiff, Nat.reduceEqDiff, Nat.reduceBEq, Nat.reduceBNe, Nat.reduceGT, Nat.reduceDiv, Nat.reduceMod, Int.reduceAdd, Int.reduceSub, Int.reduceNeg, Int.reduceLT, Int.reduceLE, Int.reduceEq, Int.reduceToNat, fA, p2, p2', w1, w2, w3, w4, ew, hw, en, p4]
            refine hB2 _ ⟨p + 1, by omega⟩ [] (by simp only; omega) rfl ?_
            simp (maxSteps := 2000000) only [enA, ↓enP, Nat.reduceAdd, Nat.reduceMul, Nat.reduceSub, Nat.reduceLT, Nat.reduceLeDiff, Nat.reduceEqDiff, Nat.reduceBEq, ↓reduceIte, reduceCtorEq, fA, ep, el, f1', firstW_self]
      obtain rfl : p = 12 := by omega
      have p2 : (((12 : Nat) : Int) < 12) = False := eq_false (by omega)
      have p2' : ((12 : Int) < 12) = False := eq_false (by omega)
      have e12 : hitP r w b d 12 = hitT r w b (d + 1) := by rw [hitT_succ]; rfl
      simp (maxSteps := 2000000) only [vcA, ↓vcP, ↓reduceIte, reduceCtorEq, Nat.reduceAdd, Nat.reduceMul, Nat.reduceSub, Nat.reduceLT, Nat.reduceLeDiff, Nat.reduceEqDiff, Nat.reduceBEq, Nat.reduceBNe, Nat.reduceGT, Nat.reduceDiv, Nat.reduceMod, Int.reduceAdd, Int.reduceSub, Int.reduceNeg, Int.reduceLT, Int.reduceLE, Int.reduceEq, Int.reduceToNat, fA, p2, p2']
      refine hB _ ⟨d + 1, by omega⟩ [] (by simp only; omega) rfl ?_
      simp (maxSteps := 2000000) only [enA, ↓enP, Nat.reduceAdd, Nat.reduceMul, Nat.reduceSub, Nat.reduceLT, Nat.reduceLeDiff, Nat.reduceEqDiff, Nat.reduceBEq, ↓reduceIte, reduceCtorEq, fA, ed, e12, firstW_self]
      try rfl
    · have k0 : ((d : Int) > 0) = True := eq_true (by omega)
      have k0' : (d > 0) = True := eq_true (by omega)
      have em : ((d - 1 : Nat) : Int) = (d : Int) - 1 := by omega
      have db1 := doz_bound hok (n := (d : Int) - 1) (by omega)
      rw [em]
      simp (maxSteps := 2000000) only [vcA, ↓vcP, ↓reduceIte, reduceCtorEq, Nat.reduceAdd, Nat.reduceMul, Nat.reduceSub, Nat.reduceLT, Nat.reduceLeDiff, Nat.reduceEqDiff, Nat.reduceBEq, Nat.reduceBNe, Nat.reduceGT, Nat.reduceDiv, Nat.reduceMod, Int.reduceAdd, Int.reduceSub, Int.reduceNeg, Int.reduceLT, Int.reduceLE, Int.reduceEq, Int.reduceToNat, fA, p1, k0, k0']
      refine goC_loop (α := {i : Nat // i ≤ r.steps.length}) (fun y => ⟨[(1, .v (.int .i64 w)), (2, .v (.int .i64 b)), (3, .ptr 8 0), (8, .v (.int .i64 (madeL r w b).length)), (9, .ptr 152 0), (10, .v (.int .i64 (madeErr r w b))), (11, .v (.int .i64 0)), (12, .v (.int .i64 (hitT r w b d).length)), (13, .ptr 304 0), (14, .v (.int .i64 (doz r ((d : Int) - 1) + (dz r.steps d y.1 - dz r.steps ((d : Int) - 1) y.1)))), (15, .v (.int .i64 d)), (16, .v (.int .i64 y.1))], [(8, .box 24 [.sl 2 (r.steps.map sR), .v (.int .i64 r.piece), .v (.int .i64 r.fine)]), (152, .box 34 [.v (.int .i64 f1), .v (.int .i64 f2), .v (.int .i64 f3)]), (304, .box 34 (firstW b (hitT r w b d)))]⟩) (fun y => r.steps.length - y.1) ⟨0, by omega⟩ [] ?_ ?_
      · have e1 : doz r ((d : Int) - 1) + (dz r.steps d 0 - dz r.steps ((d : Int) - 1) 0) = doz r ((d : Int) - 1) := by simp [dz]
        simp (maxSteps := 2000000) only [enA, ↓enP, Nat.reduceAdd, Nat.reduceMul, Nat.reduceSub, Nat.reduceLT, Nat.reduceLeDiff, Nat.reduceEqDiff, Nat.reduceBEq, ↓reduceIte, reduceCtorEq, fA, e1, firstW_self]
        try rfl
      intro y B3 hB3
      obtain ⟨i, hi⟩ := y
      simp only at hB3 ⊢
      by_cases ci : i < r.steps.length
      · have q1 : ((i : Int) < (r.steps.length : Int)) = True := eq_true (by omega)
        have q1' : (i < r.steps.length) = True := eq_true ci
        have ei : IntKind.i64.wrap ((i : Int) + 1) = ((i + 1 : Nat) : Int) := wrap_id (by omega) (by omega)
        have hm := dz_more hok (k := (d : Int)) (by omega) i ci
        have hs1 := stepsOk_all hok.steps _ (nth_mem ci)
        have b1 := dz_bound hok.steps (n := (d : Int)) (by omega) i (by omega)
        have b2 := dz_bound hok.steps (n := (d : Int) - 1) (by omega) i (by omega)
        have skipS : ¬ ((nth r.steps i).1 < (d : Int) ∧ (d : Int) ≤ untilOf r.steps i) → doz r ((d : Int) - 1) + (dz r.steps d (i + 1) - dz r.steps ((d : Int) - 1) (i + 1)) = doz r ((d : Int) - 1) + (dz r.steps d i - dz r.steps ((d : Int) - 1) i) := fun h => by rw [hm, if_neg h, Int.add_zero]
        have takeS : (nth r.steps i).1 < (d : Int) ∧ (d : Int) ≤ untilOf r.steps i → IntKind.i64.wrap (doz r ((d : Int) - 1) + (dz r.steps d i - dz r.steps ((d : Int) - 1) i) + (nth r.steps i).2) = doz r ((d : Int) - 1) + (dz r.steps d (i + 1) - dz r.steps ((d : Int) - 1) (i + 1)) := fun h => by rw [hm, if_pos h, wrap_id (by omega) (by omega)]; omega
        by_cases c1 : (nth r.steps i).1 < (d : Int)
        · have q2 : ((nth r.steps i).1 < (d : Int)) = True := eq_true c1
          by_cases c2 : i + 1 = r.steps.length
          · have q3 : (((i + 1 : Nat) : Int) == (r.steps.length : Int)) = true := by rw [beq_iff_eq]; omega
            have et := takeS ⟨c1, by rw [until_end (by omega)]; omega⟩
            simp (maxSteps := 2000000) only [vcA, ↓vcP, ↓reduceIte, reduceCtorEq, Nat.reduceAdd, Nat.reduceMul, Nat.reduceSub, Nat.reduceLT, Nat.reduceLeDiff, Nat.reduceEqDiff, Nat.reduceBEq, Nat.reduceBNe, Nat.reduceGT, Nat.reduceDiv, Nat.reduceMod, Int.reduceAdd, Int.reduceSub, Int.reduceNeg, Int.reduceLT, Int.reduceLE, Int.reduceEq, Int.reduceToNat, fA, q1, q1', q2, q3, ei, sR]
            refine hB3 _ ⟨i + 1, by omega⟩ [] (by simp only; omega) rfl ?_
            simp (maxSteps := 2000000) only [enA, ↓enP, Nat.reduceAdd, Nat.reduceMul, Nat.reduceSub, Nat.reduceLT, Nat.reduceLeDiff, Nat.reduceEqDiff, Nat.reduceBEq, ↓reduceIte, reduceCtorEq, fA, ei, et, firstW_self]
          · have q3 : (((i + 1 : Nat) : Int) == (r.steps.length : Int)) = false := by rw [beq_eq_false_iff_ne]; omega
            have q4 : (((i + 1 : Nat) : Int) < (r.steps.length : Int)) = True := eq_true (by omega)
            have q4' : (i + 1 < r.steps.length) = True := eq_true (by omega)
            by_cases c3 : (nth r.steps (i + 1)).1 ≥ (d : Int)
            · have q5 : ((nth r.steps (i + 1)).1 ≥ (d : Int)) = True := eq_true c3
              have et := takeS ⟨c1, by rw [until_lt (by omega)]; omega⟩
              simp (maxSteps := 2000000) only [vcA, ↓vcP, ↓reduceIte, reduceCtorEq, Nat.reduceAdd, Nat.reduceMul, Nat.reduceSub, Nat.reduceLT, Nat.reduceLeDiff, Nat.reduceEqDiff, Nat.reduceBEq, Nat.reduceBNe, Nat.reduceGT, Nat.reduceDiv, Nat.reduceMod, Int.reduceAdd, Int.reduceSub, Int.reduceNeg, Int.reduceLT, Int.reduceLE, Int.reduceEq, Int.reduceToNat, fA, q1, q1', q2, q3, q4, q4', q5, ei, sR]
              refine hB3 _ ⟨i + 1, by omega⟩ [] (by simp only; omega) rfl ?_
              simp (maxSteps := 2000000) only [enA, ↓enP, Nat.reduceAdd, Nat.reduceMul, Nat.reduceSub, Nat.reduceLT, Nat.reduceLeDiff, Nat.reduceEqDiff, Nat.reduceBEq, ↓reduceIte, reduceCtorEq, fA, ei, et, firstW_self]
            · have q5 : ((nth r.steps (i + 1)).1 ≥ (d : Int)) = False := eq_false c3
              have et := skipS fun h => by rw [until_lt (by omega)] at h; omega
              simp (maxSteps := 2000000) only [vcA, ↓vcP, ↓reduceIte, reduceCtorEq, Nat.reduceAdd, Nat.reduceMul, Nat.reduceSub, Nat.reduceLT, Nat.reduceLeDiff, Nat.reduceEqDiff, Nat.reduceBEq, Nat.reduceBNe, Nat.reduceGT, Nat.reduceDiv, Nat.reduceMod, Int.reduceAdd, Int.reduceSub, Int.reduceNeg, Int.reduceLT, Int.reduceLE, Int.reduceEq, Int.reduceToNat, fA, q1, q1', q2, q3, q4, q4', q5, ei, sR]
              refine hB3 _ ⟨i + 1, by omega⟩ [] (by simp only; omega) rfl ?_
              simp (maxSteps := 2000000) only [enA, ↓enP, Nat.reduceAdd, Nat.reduceMul, Nat.reduceSub, Nat.reduceLT, Nat.reduceLeDiff, Nat.reduceEqDiff, Nat.reduceBEq, ↓reduceIte, reduceCtorEq, fA, ei, et, firstW_self]
        · have q2 : ((nth r.steps i).1 < (d : Int)) = False := eq_false c1
          have et := skipS fun h => c1 h.1
          simp (maxSteps := 2000000) only [vcA, ↓vcP, ↓reduceIte, reduceCtorEq, Nat.reduceAdd, Nat.reduceMul, Nat.reduceSub, Nat.reduceLT, Nat.reduceLeDiff, Nat.reduceEqDiff, Nat.reduceBEq, Nat.reduceBNe, Nat.reduceGT, Nat.reduceDiv, Nat.reduceMod, Int.reduceAdd, Int.reduceSub, Int.reduceNeg, Int.reduceLT, Int.reduceLE, Int.reduceEq, Int.reduceToNat, fA, q1, q1', q2, sR]
          refine hB3 _ ⟨i + 1, by omega⟩ [] (by simp only; omega) rfl ?_
          simp (maxSteps := 2000000) only [enA, ↓enP, Nat.reduceAdd, Nat.reduceMul, Nat.reduceSub, Nat.reduceLT, Nat.reduceLeDiff, Nat.reduceEqDiff, Nat.reduceBEq, ↓reduceIte, reduceCtorEq, fA, ei, et, firstW_self]
      obtain rfl : i = r.steps.length := by omega
      have q1 : ((r.steps.length : Int) < (r.steps.length : Int)) = False := eq_false (by omega)
      have q1' : (r.steps.length < r.steps.length) = False := eq_false ci
      have ez : doz r ((d : Int) - 1) + (dz r.steps d r.steps.length - dz r.steps ((d : Int) - 1) r.steps.length) = doz r (d : Int) := by unfold doz; omega
      rw [ez]
      simp (maxSteps := 2000000) only [vcA, ↓vcP, ↓reduceIte, reduceCtorEq, Nat.reduceAdd, Nat.reduceMul, Nat.reduceSub, Nat.reduceLT, Nat.reduceLeDiff, Nat.reduceEqDiff, Nat.reduceBEq, Nat.reduceBNe, Nat.reduceGT, Nat.reduceDiv, Nat.reduceMod, Int.reduceAdd, Int.reduceSub, Int.reduceNeg, Int.reduceLT, Int.reduceLE, Int.reduceEq, Int.reduceToNat, fA, q1, q1']
      refine goC_loop (α := {p : Nat // p ≤ 12}) (fun y => ⟨[(1, .v (.int .i64 w)), (2, .v (.int .i64 b)), (3, .ptr 8 0), (8, .v (.int .i64 (madeL r w b).length)), (9, .ptr 152 0), (10, .v (.int .i64 (madeErr r w b))), (11, .v (.int .i64 0)), (12, .v (.int .i64 (hitP r w b d y.1).length)), (13, .ptr 304 0), (14, .v (.int .i64 (doz r (d : Nat)))), (15, .v (.int .i64 (d : Nat))), (17, .v (.int .i64 y.1))], [(8, .box 24 [.sl 2 (r.steps.map sR), .v (.int .i64 r.piece), .v (.int .i64 r.fine)]), (152, .box 34 [.v (.int .i64 f1), .v (.int .i64 f2), .v (.int .i64 f3)]), (304, .box 34 (firstW b (hitP r w b d y.1)))]⟩) (fun y => 12 - y.1) ⟨0, by omega⟩ [] ?_ ?_
      · have e1 : hitP r w b d 0 = hitT r w b d := by simp [hitP, hitR]
        skip
        simp (maxSteps := 2000000) only [enA, ↓enP, Nat.reduceAdd, Nat.reduceMul, Nat.reduceSub, Nat.reduceLT, Nat.reduceLeDiff, Nat.reduceEqDiff, Nat.reduceBEq, ↓reduceIte, reduceCtorEq, fA, e1, firstW_self]
        try rfl
      intro y B2 hB2
      obtain ⟨p, hp⟩ := y
      simp only at hB2 ⊢
      have pl : (hitP r w b d p).length ≤ 12 * d + p := by
        have := hitR_len r w b d p
        unfold hitP
        rw [List.length_append]
        omega
      have hsu : ∀ c, (wageOf r ((d : Nat) : Int) (p : Int) b == w) = c → hitP r w b d (p + 1) = hitP r w b d p ++ if c = true then [(d, p)] else [] := fun c h => by
        unfold hitP
        rw [hitR_succ, h, List.append_assoc]
      by_cases cp : p < 12
      · have p2 : ((p : Int) < 12) = True := eq_true (by omega)
        have p2' : (p < 12) = True := eq_true cp
        have ep : IntKind.i64.wrap ((p : Int) + 1) = ((p + 1 : Nat) : Int) := wrap_id (by omega) (by omega)
        have en : IntKind.i64.wrap (((hitP r w b d p).length : Int) + 1) = (((hitP r w b d p).length + 1 : Nat) : Int) := wrap_id (by omega) (by omega)
        have m1 := mul_bound (a := (p : Int)) (m := 12) (by omega) hok.piece
        have m2 := mul_bound hbb hok.fine
        have w1 : IntKind.i64.wrap ((p : Int) * r.piece) = (p : Int) * r.piece := wrap_id (by omega) (by omega)
        have w2 : IntKind.i64.wrap (b * r.fine) = b * r.fine := wrap_id (by omega) (by omega)
        have w3 : IntKind.i64.wrap (doz r ((d : Nat) : Int) + (p : Int) * r.piece) = doz r ((d : Nat) : Int) + (p : Int) * r.piece := wrap_id (by omega) (by omega)
        have w4 : IntKind.i64.wrap (doz r ((d : Nat) : Int) + (p : Int) * r.piece - b * r.fine) = doz r ((d : Nat) : Int) + (p : Int) * r.piece - b * r.fine := wrap_id (by omega) (by omega)
        have ew : max 0 (doz r ((d : Nat) : Int) + (p : Int) * r.piece - b * r.fine) = wageOf r ((d : Nat) : Int) p b := rfl
        cases hw : (wageOf r ((d : Nat) : Int) (p : Int) b == w) with
        | false =>
          have hs := hsu _ hw
          rw [if_neg (by simp), List.append_nil] at hs
          simp (maxSteps := 2000000) only [vcA, ↓vcP, ↓reduceIte, reduceCtorEq, Nat.reduceAdd, Nat.reduceMul, Nat.reduceSub, Nat.reduceLT, Nat.reduceLeDiff, Nat.reduceEqDiff, Nat.reduceBEq, Nat.reduceBNe, Nat.reduceGT, Nat.reduceDiv, Nat.reduceMod, Int.reduceAdd, Int.reduceSub, Int.reduceNeg, Int.reduceLT, Int.reduceLE, Int.reduceEq, Int.reduceToNat, fA, p2, p2', w1, w2, w3, w4, ew, hw]
          refine hB2 _ ⟨p + 1, by omega⟩ [] (by simp only; omega) rfl ?_
          simp (maxSteps := 2000000) only [enA, ↓enP, Nat.reduceAdd, Nat.reduceMul, Nat.reduceSub, Nat.reduceLT, Nat.reduceLeDiff, Nat.reduceEqDiff, Nat.reduceBEq, ↓reduceIte, reduceCtorEq, fA, ep, hs, firstW_self]
        | true =>
          have hs := hsu _ hw
          rw [if_pos rfl] at hs
          have el : (hitP r w b d (p + 1)).length = (hitP r w b d p).length + 1 := by rw [hs]; simp
          by_cases hn : hitP r w b d p = []
          · have f1' : firstW b (hitP r w b d (p + 1)) = [.v (.int .i64 (d : Nat)), .v (.int .i64 p), .v (.int .i64 b)] := by rw [hs, hn]; rfl
            have l0 : (hitP r w b d p).length = 0 := by rw [hn]; rfl
            have f0 : firstW b (hitP r w b d p) = [.v (.int .i64 0), .v (.int .i64 0), .v (.int .i64 0)] := by rw [hn]; rfl
            have en0 : IntKind.i64.wrap 1 = 1 := by decide
            have en1 : IntKind.i64.wrap (0 + 1) = 1 := by decide
            have p4 : ((1 : Int) == 1) = true := rfl
            rw [l0] at el
            rw [l0, f0]
            simp (maxSteps := 2000000) only [vcA, ↓vcP, ↓reduceIte, reduceCtorEq, Nat.reduceAdd, Nat.reduceMul, Nat.reduceSub, Nat.reduceLT, Nat.reduceLeDiff, Nat.reduceEqDiff, Nat.reduceBEq, Nat.reduceBNe, Nat.reduceGT, Nat.reduceDiv, Nat.reduceMod, Int.reduceAdd, Int.reduceSub, Int.reduceNeg, Int.reduceLT, Int.reduceLE, Int.reduceEq, Int.reduceToNat, fA, p2, p2', w1, w2, w3, w4, ew, hw, en0, en1, p4]
            refine hB2 _ ⟨p + 1, by omega⟩ [] (by simp only; omega) rfl ?_
            simp (maxSteps := 2000000) only [enA, ↓enP, Nat.reduceAdd, Nat.reduceMul, Nat.reduceSub, Nat.reduceLT, Nat.reduceLeDiff, Nat.reduceEqDiff, Nat.reduceBEq, ↓reduceIte, reduceCtorEq, fA, ep, el, f1']
            try rfl
          · have f1' : firstW b (hitP r w b d (p + 1)) = firstW b (hitP r w b d p) := by rw [hs]; exact firstW_app b hn _
            have hpos : 0 < (hitP r w b d p).length := List.length_pos_iff.2 hn
            have p4 : ((((hitP r w b d p).length + 1 : Nat) : Int) == 1) = false := by rw [beq_eq_false_iff_ne]; omega
            simp (maxSteps := 2000000) only [vcA, ↓vcP, ↓reduceIte, reduceCtorEq, Nat.reduceAdd, Nat.reduceMul, Nat.reduceSub, Nat.reduceLT, Nat.reduceLeDiff, Nat.reduceEqDiff, Nat.reduceBEq, Nat.reduceBNe, Nat.reduceGT, Nat.reduceDiv, Nat.reduceMod, Int.reduceAdd, Int.reduceSub, Int.reduceNeg, Int.reduceLT, Int.reduceLE, Int.reduceEq, Int.reduceToNat, fA, p2, p2', w1, w2, w3, w4, ew, hw, en, p4]
            refine hB2 _ ⟨p + 1, by omega⟩ [] (by simp only; omega) rfl ?_
            simp (maxSteps := 2000000) only [enA, ↓enP, Nat.reduceAdd, Nat.reduceMul, Nat.reduceSub, Nat.reduceLT, Nat.reduceLeDiff, Nat.reduceEqDiff, Nat.reduceBEq, ↓reduceIte, reduceCtorEq, fA, ep, el, f1', firstW_self]
      obtain rfl : p = 12 := by omega
      have p2 : (((12 : Nat) : Int) < 12) = False := eq_false (by omega)
      have p2' : ((12 : Int) < 12) = False := eq_false (by omega)
      have e12 : hitP r w b d 12 = hitT r w b (d + 1) := by rw [hitT_succ]; rfl
      simp (maxSteps := 2000000) only [vcA, ↓vcP, ↓reduceIte, reduceCtorEq, Nat.reduceAdd, Nat.reduceMul, Nat.reduceSub, Nat.reduceLT, Nat.reduceLeDiff, Nat.reduceEqDiff, Nat.reduceBEq, Nat.reduceBNe, Nat.reduceGT, Nat.reduceDiv, Nat.reduceMod, Int.reduceAdd, Int.reduceSub, Int.reduceNeg, Int.reduceLT, Int.reduceLE, Int.reduceEq, Int.reduceToNat, fA, p2, p2']
      refine hB _ ⟨d + 1, by omega⟩ [] (by simp only; omega) rfl ?_
      simp (maxSteps := 2000000) only [enA, ↓enP, Nat.reduceAdd, Nat.reduceMul, Nat.reduceSub, Nat.reduceLT, Nat.reduceLeDiff, Nat.reduceEqDiff, Nat.reduceBEq, ↓reduceIte, reduceCtorEq, fA, ed, e12, firstW_self]
      try rfl
  obtain rfl : d = 1001 := by omega
  have p1 : (((1001 : Nat) : Int) ≤ 1000) = False := eq_false (by omega)
  have p1' : ((1001 : Int) ≤ 1000) = False := eq_false (by omega)
  have eh : hitT r w b 1001 = hits r w b := rfl
  rw [eh]
  by_cases hz : hits r w b = []
  · have e : madeErr r w b = 7 := by unfold madeErr; rw [if_neg (by rw [h0]; simp), hb, if_neg (by simp), if_pos hz]
    have e2 := hbad _ e (by decide)
    rw [e2] at hf
    simp only [firstW, List.cons.injEq, AV.v.injEq, Value.int.injEq, true_and, and_true] at hf
    obtain ⟨rfl, rfl, rfl⟩ := hf
    have g3 : ((7 : Int) == 0) = false := rfl
    have g4 : ((7 : Int) != 0) = true := rfl
    rw [hz, e, e2]
    simp (maxSteps := 2000000) only [vcA, ↓vcP, ↓reduceIte, reduceCtorEq, Nat.reduceAdd, Nat.reduceMul, Nat.reduceSub, Nat.reduceLT, Nat.reduceLeDiff, Nat.reduceEqDiff, Nat.reduceBEq, Nat.reduceBNe, Nat.reduceGT, Nat.reduceDiv, Nat.reduceMod, Int.reduceAdd, Int.reduceSub, Int.reduceNeg, Int.reduceLT, Int.reduceLE, Int.reduceEq, Int.reduceToNat, fA, p1, p1', g0, g1, g3, g4, be, firstW, eqs, eqt_work, all3, kO3]
    refine onF_data known_spec ?_ ?_
    · simp (maxSteps := 2000000) only [okA, ↓okP, Nat.reduceAdd, Nat.reduceMul, Nat.reduceSub, Nat.reduceLT, Nat.reduceLeDiff, Nat.reduceEqDiff, Nat.reduceBEq, ↓reduceIte, reduceCtorEq]
    simp (maxSteps := 2000000) only [vcA, ↓vcP, ↓reduceIte, reduceCtorEq, Nat.reduceAdd, Nat.reduceMul, Nat.reduceSub, Nat.reduceLT, Nat.reduceLeDiff, Nat.reduceEqDiff, Nat.reduceBEq, Nat.reduceBNe, Nat.reduceGT, Nat.reduceDiv, Nat.reduceMod, Int.reduceAdd, Int.reduceSub, Int.reduceNeg, Int.reduceLT, Int.reduceLE, Int.reduceEq, Int.reduceToNat, fA]
    refine hR _ (fin_of0 ?_)
    simp (maxSteps := 2000000) only [enA, ↓enP, Nat.reduceAdd, Nat.reduceMul, Nat.reduceSub, Nat.reduceLT, Nat.reduceLeDiff, Nat.reduceEqDiff, Nat.reduceBEq, ↓reduceIte, reduceCtorEq, fA]
  · have e : madeErr r w b = 0 := by unfold madeErr; rw [if_neg (by rw [h0]; simp), hb, if_neg (by simp), if_neg hz]
    have e2 : madeL r w b = hits r w b := by unfold madeL; rw [if_pos e]
    obtain ⟨x, l, hx⟩ := List.exists_cons_of_ne_nil hz
    rw [e2, hx] at hf
    simp only [firstW, List.cons.injEq, AV.v.injEq, Value.int.injEq, true_and, and_true] at hf
    obtain ⟨rfl, rfl, rfl⟩ := hf
    have p4 : (((l.length + 1 : Nat) : Int) == 0) = false := by rw [beq_eq_false_iff_ne]; omega
    rw [e, e2, hx]
    simp (maxSteps := 2000000) only [vcA, ↓vcP, ↓reduceIte, reduceCtorEq, Nat.reduceAdd, Nat.reduceMul, Nat.reduceSub, Nat.reduceLT, Nat.reduceLeDiff, Nat.reduceEqDiff, Nat.reduceBEq, Nat.reduceBNe, Nat.reduceGT, Nat.reduceDiv, Nat.reduceMod, Int.reduceAdd, Int.reduceSub, Int.reduceNeg, Int.reduceLT, Int.reduceLE, Int.reduceEq, Int.reduceToNat, fA, p1, p1', g0, g1, p4, be, firstW, eqs, eqt_work, all3, kO3]
    refine onF_data known_spec ?_ ?_
    · simp (maxSteps := 2000000) only [okA, ↓okP, Nat.reduceAdd, Nat.reduceMul, Nat.reduceSub, Nat.reduceLT, Nat.reduceLeDiff, Nat.reduceEqDiff, Nat.reduceBEq, ↓reduceIte, reduceCtorEq]
    simp (maxSteps := 2000000) only [vcA, ↓vcP, ↓reduceIte, reduceCtorEq, Nat.reduceAdd, Nat.reduceMul, Nat.reduceSub, Nat.reduceLT, Nat.reduceLeDiff, Nat.reduceEqDiff, Nat.reduceBEq, Nat.reduceBNe, Nat.reduceGT, Nat.reduceDiv, Nat.reduceMod, Int.reduceAdd, Int.reduceSub, Int.reduceNeg, Int.reduceLT, Int.reduceLE, Int.reduceEq, Int.reduceToNat, fA]
    refine hR _ (fin_of0 ?_)
    simp (maxSteps := 2000000) only [enA, ↓enP, Nat.reduceAdd, Nat.reduceMul, Nat.reduceSub, Nat.reduceLT, Nat.reduceLeDiff, Nat.reduceEqDiff, Nat.reduceBEq, ↓reduceIte, reduceCtorEq, fA]
end Go.Proofs.Ytmjnlcfnaoloeaa.Ab.T12
