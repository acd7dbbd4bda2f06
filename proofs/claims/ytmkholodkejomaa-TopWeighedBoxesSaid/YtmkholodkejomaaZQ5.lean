/- All ways of a load; Ways. -/
import Derived.Test.YtmkholodkejomaaZQ4
namespace Go.Proofs.Ytmkholodkejomaa.Ab.T08
open Go Go.RowKit
set_option linter.unusedVariables false
set_option linter.unusedSimpArgs false
set_option maxRecDepth 100000
def wyR (w : List Int) : List DV := [.sl 1 (w.map iR)]
def allL (l : Ld) : List (List Int) := waysF l l.boxes.length []
theorem flatMap_le {α : Type} {f : Nat → List α} {m : Nat} (h : ∀ c, (f c).length ≤ m) : ∀ n, ((List.range n).flatMap f).length ≤ n * m
  | 0 => by simp
  | n + 1 => by
    have := flatMap_le h n
    have := h n
    rw [List.range_succ, List.flatMap_append, List.length_append]
    simp only [List.flatMap_cons, List.flatMap_nil, List.append_nil]
    rw [Nat.add_mul]
    omega
theorem waysF_len {l : Ld} (hc : l.bills.length ≤ 3) : ∀ r w, (waysF l r w).length ≤ 3 ^ r
  | 0, w => by
    rw [waysF]
    split <;> simp
  | r + 1, w => by
    rw [waysF]
    have h : ∀ c, (stepW l (waysF l r) w c).length ≤ 3 ^ r := fun c => by
      unfold stepW
      split
      · simp
      · exact waysF_len hc r _
    have := flatMap_le (f := fun c => stepW l (waysF l r) w c) h l.bills.length
    have h2 : l.bills.length * 3 ^ r ≤ 3 * 3 ^ r := Nat.mul_le_mul_right _ hc
    rw [Nat.pow_succ]
    omega
theorem allL_len {l : Ld} {K : Nat} (hl : l.Ok K) : (allL l).length ≤ 6561 := by
  have h := waysF_len hl.nc.2 l.boxes.length []
  have h2 : 3 ^ l.boxes.length ≤ 3 ^ 8 := Nat.pow_le_pow_right (by omega) hl.nb
  unfold allL
  omega
theorem cellW_nil (l : Ld) : cellW l [] = fun _ => 0 := rfl
set_option maxHeartbeats 4000000 in
theorem appSeq_spec {l : Ld} {K : Nat} (hl : l.Ok K) : SpecG Try.prog 69 [.v (.slice none 0 0), .fn 70 [.ptr 0 0, .ptr 1 0, .ptr 2 0]] [.box 75 [.sl 1 (([] : List Int).map iR)], .box 71 [.sl 1 (l.boxes.map boxR), .sl 2 (l.bills.map biR)], .box 120 (caA fun _ => 0)] (.ob 3 (allL l).length) [.box 75 [.sl 1 (([] : List Int).map iR)], .box 71 [.sl 1 (l.boxes.map boxR), .sl 2 (l.bills.map biR)], .box 120 (caA fun _ => 0), .row 75 1 ((allL l).map wyR) false] := by
  have hlen := allL_len hl
  obtain ⟨W, hW⟩ : ∃ W, W = allL l := ⟨_, rfl⟩
  rw [← hW] at hlen ⊢
  refine spec_go (N := 13) (rs := [.tmp 4]) (eq := eqs) rfl rfl fun_69 rfl (by kernel_rfl) (by kernel_rfl) (by simp) (by simp) (by simp) (by simp) fun R hR => ?_
  simp (maxSteps := 2000000) only [vcA, ↓vcP, ↓reduceIte, reduceCtorEq, Nat.reduceAdd, Nat.reduceMul, Nat.reduceSub, Nat.reduceLT, Nat.reduceLeDiff, Nat.reduceEqDiff, Nat.reduceBEq, Nat.reduceBNe, Nat.reduceGT, Nat.reduceDiv, Nat.reduceMod, Int.reduceAdd, Int.reduceSub, Int.reduceNeg, Int.reduceLT, Int.reduceLE, Int.reduceEq, Int.reduceToNat, fA]
  refine goC_rangeX (A := [.yl 0, .ptr 1 0, .ptr 2 0, .ptr 3 0]) (bs' := [.ptr 1 0, .ptr 2 0, .ptr 3 0]) [(2, .ptr 8 0)] (fun j : Nat => [(8, .box 72 [.ob 32 (W.take j).length]), (32, .row 75 1 ((W.take j).map wyR) false)]) [(0, .box 75 [.sl 1 (([] : List Int).map iR)]), (1, .box 71 [.sl 1 (l.boxes.map boxR), .sl 2 (l.bills.map biR)]), (2, .box 120 (caA fun _ => 0))]
      [.box 75 [.sl 1 (([] : List Int).map iR)], .box 71 [.sl 1 (l.boxes.map boxR), .sl 2 (l.bills.map biR)], .box 120 (caA fun _ => 0)] (fun _ => none) (fun i args j => i < W.length ∧ args = [.sl 1 ((nth W i).map iR)] ∧ j = i + 1) 0 W.length (.tup []) [none] (.inr ⟨rfl, rfl⟩) ?_ ?_ ?_ ?_ rfl trivial ?_ ?_ ?_ ?_
  · simp (maxSteps := 2000000) only [okA, ↓okP, Nat.reduceAdd, Nat.reduceMul, Nat.reduceSub, Nat.reduceLT, Nat.reduceLeDiff, Nat.reduceEqDiff, Nat.reduceBEq, ↓reduceIte, reduceCtorEq, rt]
  · simp (maxSteps := 2000000) only [enA, ↓enP, Nat.reduceAdd, Nat.reduceMul, Nat.reduceSub, Nat.reduceLT, Nat.reduceLeDiff, Nat.reduceEqDiff, Nat.reduceBEq, ↓reduceIte, reduceCtorEq, fA, List.cons_append, List.nil_append, caA_eqr]
    try simp
    try rfl
  · refine ⟨by simp, rfl, ?_, rfl, by simp [eqO, eqrL, eqr1, eqr0, rn, caA]⟩
    simp (maxSteps := 2000000) only [okA, ↓okP, Nat.reduceAdd, Nat.reduceMul, Nat.reduceSub, Nat.reduceLT, Nat.reduceLeDiff, Nat.reduceEqDiff, Nat.reduceBEq, ↓reduceIte, reduceCtorEq, rt, getO, caA_eqr]
    try trivial
  · intro x p hp
    simp at hp
    rcases hp with rfl | rfl | rfl <;> rfl
  · intro σ
    simp [tmsSelf, eqr, eqr2, eqr1, eqr0, rn, eqrL]
  · intro Φ2 _ hy2
    have := waysI_spec hl l.boxes.length [] (by simp) (Φ := Φ2) 0 fun i hi => by rw [Nat.zero_add]; exact hy2 i _ _ ⟨by rw [hW]; exact hi, by rw [hW]; rfl, rfl⟩
    rw [Nat.zero_add, cellW_nil] at this
    rw [hW]
    exact this
  · rintro i args j ⟨hi, rfl, rfl⟩
    refine ⟨rfl, trivial, rfl, [.sl 1 ((nth W i).map iR)], ?_, fun B2 hB2 => ?_⟩
    · simp (maxSteps := 2000000) only [okA, ↓okP, Nat.reduceAdd, Nat.reduceMul, Nat.reduceSub, Nat.reduceLT, Nat.reduceLeDiff, Nat.reduceEqDiff, Nat.reduceBEq, ↓reduceIte, reduceCtorEq]
    have tl : (W.take i).length = i := by rw [List.length_take]; omega
    have tk : W.take (i + 1) = W.take i ++ [nth W i] := by rw [List.take_add_one, nth_eq hi]; rfl
    have tl2 : (W.take (i + 1)).length = i + 1 := by rw [List.length_take]; omega
    simp (maxSteps := 2000000) only [vcA, ↓vcP, ↓reduceIte, reduceCtorEq, Nat.reduceAdd, Nat.reduceMul, Nat.reduceSub, Nat.reduceLT, Nat.reduceLeDiff, Nat.reduceEqDiff, Nat.reduceBEq, Nat.reduceBNe, Nat.reduceGT, Nat.reduceDiv, Nat.reduceMod, Int.reduceAdd, Int.reduceSub, Int.reduceNeg, Int.reduceLT, Int.reduceLE, Int.reduceEq, Int.reduceToNat, fA, tl]
    refine ⟨⟨by omega, by simp only [maxLen]; omega⟩, fun _ => ?_⟩
    try repeat (first | refine ⟨by kernel_rfl, ?_⟩ | refine ⟨⟨by kernel_rfl, by kernel_rfl⟩, ?_⟩ | refine ⟨⟨by kernel_rfl, by kernel_rfl, by kernel_rfl⟩, ?_⟩ | refine ⟨⟨by kernel_rfl, by kernel_rfl, by kernel_rfl, by kernel_rfl⟩, ?_⟩ | refine ⟨⟨by kernel_rfl, by kernel_rfl, by kernel_rfl, by kernel_rfl, by kernel_rfl⟩, ?_⟩ | refine ⟨⟨by kernel_rfl, by kernel_rfl, by kernel_rfl, by kernel_rfl, by kernel_rfl, by kernel_rfl⟩, ?_⟩ | refine ⟨⟨by kernel_rfl, by kernel_rfl, by kernel_rfl, by kernel_rfl, by kernel_rfl, by kernel_rfl, by kernel_rfl⟩, ?_⟩ | refine ⟨⟨by kernel_rfl, by kernel_rfl, by kernel_rfl, by kernel_rfl, by kernel_rfl, by kernel_rfl, by kernel_rfl, by kernel_rfl⟩, ?_⟩ | refine ⟨⟨by kernel_rfl, by kernel_rfl, by kernel_rfl, by kernel_rfl, by kernel_rfl, by kernel_rfl, by kernel_rfl, by kernel_rfl, by kernel_rfl⟩, ?_⟩ | refine ⟨⟨by kernel_rfl, by kernel_rfl, by kernel_rfl, by kernel_rfl, by kernel_rfl, by kernel_rfl, by kernel_rfl, by kernel_rfl, by kernel_rfl, by kernel_rfl⟩, ?_⟩ | refine ⟨⟨by kernel_rfl, by kernel_rfl, by kernel_rfl, by kernel_rfl, by kernel_rfl, by kernel_rfl, by kernel_rfl, by kernel_rfl, by kernel_rfl, by kernel_rfl, by kernel_rfl⟩, ?_⟩ | refine ⟨⟨by kernel_rfl, by kernel_rfl, by kernel_rfl, by kernel_rfl, by kernel_rfl, by kernel_rfl, by kernel_rfl, by kernel_rfl, by kernel_rfl, by kernel_rfl, by kernel_rfl, by kernel_rfl⟩, ?_⟩ | refine ⟨⟨by kernel_rfl, by kernel_rfl, by kernel_rfl, by kernel_rfl, by kernel_rfl, by kernel_rfl, by kernel_rfl, by kernel_rfl, by kernel_rfl, by kernel_rfl, by kernel_rfl, by kernel_rfl, by kernel_rfl⟩, ?_⟩)
    refine hB2 .normal _ [some 96] rfl ?_
    simp (maxSteps := 2000000) only [enA, ↓enP, Nat.reduceAdd, Nat.reduceMul, Nat.reduceSub, Nat.reduceLT, Nat.reduceLeDiff, Nat.reduceEqDiff, Nat.reduceBEq, ↓reduceIte, reduceCtorEq, fA, tl, tl2, tk, List.map_append, wyR]
    rw [List.length_append, tl]
    rfl
  · have tk : W.take W.length = W := List.take_length
    rw [tk]
    simp (maxSteps := 2000000) only [vcA, ↓vcP, ↓reduceIte, reduceCtorEq, Nat.reduceAdd, Nat.reduceMul, Nat.reduceSub, Nat.reduceLT, Nat.reduceLeDiff, Nat.reduceEqDiff, Nat.reduceBEq, Nat.reduceBNe, Nat.reduceGT, Nat.reduceDiv, Nat.reduceMod, Int.reduceAdd, Int.reduceSub, Int.reduceNeg, Int.reduceLT, Int.reduceLE, Int.reduceEq, Int.reduceToNat, fA, List.cons_append, List.nil_append]
    refine hR _ (fin_of1 [some 32] ?_)
    simp (maxSteps := 2000000) only [enA, ↓enP, Nat.reduceAdd, Nat.reduceMul, Nat.reduceSub, Nat.reduceLT, Nat.reduceLeDiff, Nat.reduceEqDiff, Nat.reduceBEq, ↓reduceIte, reduceCtorEq, fA, caA_eqr]
    try rfl
theorem collect_spec {l : Ld} {K : Nat} (hl : l.Ok K) : SpecG Try.prog 51 [.fn 70 [.ptr 0 0, .ptr 1 0, .ptr 2 0]] [.box 75 [.sl 1 (([] : List Int).map iR)], .box 71 [.sl 1 (l.boxes.map boxR), .sl 2 (l.bills.map biR)], .box 120 (caA fun _ => 0)] (.ob 3 (allL l).length) [.box 75 [.sl 1 (([] : List Int).map iR)], .box 71 [.sl 1 (l.boxes.map boxR), .sl 2 (l.bills.map biR)], .box 120 (caA fun _ => 0), .row 75 1 ((allL l).map wyR) false] := by
  refine spec_go (N := 5) (rs := [.tmp 2]) (eq := eqs) rfl rfl fun_51 rfl (by kernel_rfl) (by kernel_rfl) (by simp) (by simp) (by simp) (by simp) fun R hR => ?_
  simp (maxSteps := 2000000) only [vcA, ↓vcP, ↓reduceIte, reduceCtorEq, Nat.reduceAdd, Nat.reduceMul, Nat.reduceSub, Nat.reduceLT, Nat.reduceLeDiff, Nat.reduceEqDiff, Nat.reduceBEq, Nat.reduceBNe, Nat.reduceGT, Nat.reduceDiv, Nat.reduceMod, Int.reduceAdd, Int.reduceSub, Int.reduceNeg, Int.reduceLT, Int.reduceLE, Int.reduceEq, Int.reduceToNat, fA]
  refine onF_call (appSeq_spec hl) [] [] [0, 1, 2] ?_ ?_
  · simp (maxSteps := 2000000) only [okA, ↓okP, Nat.reduceAdd, Nat.reduceMul, Nat.reduceSub, Nat.reduceLT, Nat.reduceLeDiff, Nat.reduceEqDiff, Nat.reduceBEq, ↓reduceIte, reduceCtorEq, caA_eqr]
  simp (maxSteps := 2000000) only [vcA, ↓vcP, ↓reduceIte, reduceCtorEq, Nat.reduceAdd, Nat.reduceMul, Nat.reduceSub, Nat.reduceLT, Nat.reduceLeDiff, Nat.reduceEqDiff, Nat.reduceBEq, Nat.reduceBNe, Nat.reduceGT, Nat.reduceDiv, Nat.reduceMod, Int.reduceAdd, Int.reduceSub, Int.reduceNeg, Int.reduceLT, Int.reduceLE, Int.reduceEq, Int.reduceToNat, fA]
  refine hR _ (fin_of1 [some 24] ?_)
  simp (maxSteps := 2000000) only [enA, ↓enP, Nat.reduceAdd, Nat.reduceMul, Nat.reduceSub, Nat.reduceLT, Nat.reduceLeDiff, Nat.reduceEqDiff, Nat.reduceBEq, ↓reduceIte, reduceCtorEq, fA, caA_ren, caA_eqr]
theorem all0_spec {l : Ld} {K : Nat} (hl : l.Ok K) : SpecG Try.prog 29 [.agg [.sl 1 (l.boxes.map boxR), .sl 2 (l.bills.map biR)]] [] (.ob 0 (allL l).length) [.row 75 1 ((allL l).map wyR) false] := by
  have hw := ways_spec l [] (fun _ => 0)
  refine spec_go (N := 7) (rs := [.tmp 2]) (eq := eqs) rfl rfl fun_29 rfl (by kernel_rfl) (by kernel_rfl) (by simp) (by simp) (by simp) (by simp) fun R hR => ?_
  simp (maxSteps := 2000000) only [vcA, ↓vcP, ↓reduceIte, reduceCtorEq, Nat.reduceAdd, Nat.reduceMul, Nat.reduceSub, Nat.reduceLT, Nat.reduceLeDiff, Nat.reduceEqDiff, Nat.reduceBEq, Nat.reduceBNe, Nat.reduceGT, Nat.reduceDiv, Nat.reduceMod, Int.reduceAdd, Int.reduceSub, Int.reduceNeg, Int.reduceLT, Int.reduceLE, Int.reduceEq, Int.reduceToNat, fA]
  refine onF_call hw [] [] [] ?_ ?_
  · simp (maxSteps := 2000000) only [okA, ↓okP, Nat.reduceAdd, Nat.reduceMul, Nat.reduceSub, Nat.reduceLT, Nat.reduceLeDiff, Nat.reduceEqDiff, Nat.reduceBEq, ↓reduceIte, reduceCtorEq, caA]
  simp (maxSteps := 2000000) only [vcA, ↓vcP, ↓reduceIte, reduceCtorEq, Nat.reduceAdd, Nat.reduceMul, Nat.reduceSub, Nat.reduceLT, Nat.reduceLeDiff, Nat.reduceEqDiff, Nat.reduceBEq, Nat.reduceBNe, Nat.reduceGT, Nat.reduceDiv, Nat.reduceMod, Int.reduceAdd, Int.reduceSub, Int.reduceNeg, Int.reduceLT, Int.reduceLE, Int.reduceEq, Int.reduceToNat, fA, caA_id, caA_ren]
  refine onF_call (collect_spec hl) [] [] [40, 41, 42] ?_ ?_
  · simp (maxSteps := 2000000) only [okA, ↓okP, Nat.reduceAdd, Nat.reduceMul, Nat.reduceSub, Nat.reduceLT, Nat.reduceLeDiff, Nat.reduceEqDiff, Nat.reduceBEq, ↓reduceIte, reduceCtorEq, caA_eqr]
  simp (maxSteps := 2000000) only [vcA, ↓vcP, ↓reduceIte, reduceCtorEq, Nat.reduceAdd, Nat.reduceMul, Nat.reduceSub, Nat.reduceLT, Nat.reduceLeDiff, Nat.reduceEqDiff, Nat.reduceBEq, Nat.reduceBNe, Nat.reduceGT, Nat.reduceDiv, Nat.reduceMod, Int.reduceAdd, Int.reduceSub, Int.reduceNeg, Int.reduceLT, Int.reduceLE, Int.reduceEq, Int.reduceToNat, fA]
  refine hR _ (fin_of1 [some 48] ?_)
  simp (maxSteps := 2000000) only [enA, ↓enP, Nat.reduceAdd, Nat.reduceMul, Nat.reduceSub, Nat.reduceLT, Nat.reduceLeDiff, Nat.reduceEqDiff, Nat.reduceBEq, ↓reduceIte, reduceCtorEq, fA, caA_ren, caA_eqr]
theorem all_spec {l : Ld} {K : Nat} (hl : l.Ok K) : SpecF Try.prog 29 [.agg [.sl 1 (l.boxes.map boxR), .sl 2 (l.bills.map biR)]] (.sl 1 ((allL l).map wyR)) [] := (all0_spec hl).frz
theorem open_spec {l : Ld} {K : Nat} (hl : l.Ok K) (hne : allL l ≠ []) : SpecF Try.prog 18 [.agg [.sl 1 (l.boxes.map boxR), .sl 2 (l.bills.map biR)]] (.tup [.agg [.sl 1 (l.boxes.map boxR), .sl 2 (l.bills.map biR)], .sl 1 ((allL l).map wyR), .v (.int .i64 0)]) [] := by
  have q0 : (((allL l).length : Int) == 0) = false := by
    rw [beq_eq_false_iff_ne]
    have := List.length_pos_iff.2 hne
    omega
  have g0 : ((0 : Int) != 0) = false := rfl
  refine spec_go (N := 22) (rs := [.cell 2 71, .tmp 3, .tmp 4]) (eq := eqs) rfl rfl fun_18 rfl (by kernel_rfl) (by kernel_rfl) (by simp) (by simp) (by simp) (by simp) fun R hR => ?_
  simp (maxSteps := 2000000) only [vcA, ↓vcP, ↓reduceIte, reduceCtorEq, Nat.reduceAdd, Nat.reduceMul, Nat.reduceSub, Nat.reduceLT, Nat.reduceLeDiff, Nat.reduceEqDiff, Nat.reduceBEq, Nat.reduceBNe, Nat.reduceGT, Nat.reduceDiv, Nat.reduceMod, Int.reduceAdd, Int.reduceSub, Int.reduceNeg, Int.reduceLT, Int.reduceLE, Int.reduceEq, Int.reduceToNat, fA]
  refine onF_data (check_spec hl) ?_ ?_
  · simp (maxSteps := 2000000) only [okA, ↓okP, Nat.reduceAdd, Nat.reduceMul, Nat.reduceSub, Nat.reduceLT, Nat.reduceLeDiff, Nat.reduceEqDiff, Nat.reduceBEq, ↓reduceIte, reduceCtorEq]
  simp (maxSteps := 2000000) only [vcA, ↓vcP, ↓reduceIte, reduceCtorEq, Nat.reduceAdd, Nat.reduceMul, Nat.reduceSub, Nat.reduceLT, Nat.reduceLeDiff, Nat.reduceEqDiff, Nat.reduceBEq, Nat.reduceBNe, Nat.reduceGT, Nat.reduceDiv, Nat.reduceMod, Int.reduceAdd, Int.reduceSub, Int.reduceNeg, Int.reduceLT, Int.reduceLE, Int.reduceEq, Int.reduceToNat, fA, g0]
  refine onF_data (all_spec hl) ?_ ?_
  · simp (maxSteps := 2000000) only [okA, ↓okP, Nat.reduceAdd, Nat.reduceMul, Nat.reduceSub, Nat.reduceLT, Nat.reduceLeDiff, Nat.reduceEqDiff, Nat.reduceBEq, ↓reduceIte, reduceCtorEq]
  simp (maxSteps := 2000000) only [vcA, ↓vcP, ↓reduceIte, reduceCtorEq, Nat.reduceAdd, Nat.reduceMul, Nat.reduceSub, Nat.reduceLT, Nat.reduceLeDiff, Nat.reduceEqDiff, Nat.reduceBEq, Nat.reduceBNe, Nat.reduceGT, Nat.reduceDiv, Nat.reduceMod, Int.reduceAdd, Int.reduceSub, Int.reduceNeg, Int.reduceLT, Int.reduceLE, Int.reduceEq, Int.reduceToNat, fA, q0]
  refine hR _ (fin_of0 ?_)
  simp (maxSteps := 2000000) only [enA, ↓enP, Nat.reduceAdd, Nat.reduceMul, Nat.reduceSub, Nat.reduceLT, Nat.reduceLeDiff, Nat.reduceEqDiff, Nat.reduceBEq, ↓reduceIte, reduceCtorEq, fA]
theorem mways_spec {l : Ld} {K : Nat} (hl : l.Ok K) (hne : allL l ≠ []) : SpecF Try.prog 9 [.agg [.sl 1 (l.boxes.map boxR), .sl 2 (l.bills.map biR)]] (.tup [.v (.int .i64 (allL l).length), .sl 1 ((nth (allL l) 0).map iR), .v (.int .i64 0)]) [] := by
  have hp := List.length_pos_iff.2 hne
  have g0 : ((0 : Int) != 0) = false := rfl
  have q4 : ((0 : Int) < ((allL l).length : Int)) = True := eq_true (by omega)
  have q4' : (0 < (allL l).length) = True := eq_true hp
  have y0 : (List.map wyR (allL l)).getD 0 [] = wyR (nth (allL l) 0) := nth_map wyR (allL l) 0 hp
  refine spec_go (N := 21) (rs := [.tmp 2, .tmp 3, .tmp 4]) (eq := eqs) rfl rfl fun_9 rfl (by kernel_rfl) (by kernel_rfl) (by simp) (by simp) (by simp) (by simp) fun R hR => ?_
  simp (maxSteps := 2000000) only [vcA, ↓vcP, ↓reduceIte, reduceCtorEq, Nat.reduceAdd, Nat.reduceMul, Nat.reduceSub, Nat.reduceLT, Nat.reduceLeDiff, Nat.reduceEqDiff, Nat.reduceBEq, Nat.reduceBNe, Nat.reduceGT, Nat.reduceDiv, Nat.reduceMod, Int.reduceAdd, Int.reduceSub, Int.reduceNeg, Int.reduceLT, Int.reduceLE, Int.reduceEq, Int.reduceToNat, fA]
  refine onF_data (open_spec hl hne) ?_ ?_
  · simp (maxSteps := 2000000) only [okA, ↓okP, Nat.reduceAdd, Nat.reduceMul, Nat.reduceSub, Nat.reduceLT, Nat.reduceLeDiff, Nat.reduceEqDiff, Nat.reduceBEq, ↓reduceIte, reduceCtorEq]
  simp (maxSteps := 2000000) only [vcA, ↓vcP, ↓reduceIte, reduceCtorEq, Nat.reduceAdd, Nat.reduceMul, Nat.reduceSub, Nat.reduceLT, Nat.reduceLeDiff, Nat.reduceEqDiff, Nat.reduceBEq, Nat.reduceBNe, Nat.reduceGT, Nat.reduceDiv, Nat.reduceMod, Int.reduceAdd, Int.reduceSub, Int.reduceNeg, Int.reduceLT, Int.reduceLE, Int.reduceEq, Int.reduceToNat, fA, g0, q4, q4', y0, wyR]
  try repeat (first | refine ⟨by kernel_rfl, ?_⟩ | refine ⟨⟨by kernel_rfl, by kernel_rfl⟩, ?_⟩ | refine ⟨⟨by kernel_rfl, by kernel_rfl, by kernel_rfl⟩, ?_⟩ | refine ⟨⟨by kernel_rfl, by kernel_rfl, by kernel_rfl, by kernel_rfl⟩, ?_⟩ | refine ⟨⟨by kernel_rfl, by kernel_rfl, by kernel_rfl, by kernel_rfl, by kernel_rfl⟩, ?_⟩ | refine ⟨⟨by kernel_rfl, by kernel_rfl, by kernel_rfl, by kernel_rfl, by kernel_rfl, by kernel_rfl⟩, ?_⟩ | refine ⟨⟨by kernel_rfl, by kernel_rfl, by kernel_rfl, by kernel_rfl, by kernel_rfl, by kernel_rfl, by kernel_rfl⟩, ?_⟩ | refine ⟨⟨by kernel_rfl, by kernel_rfl, by kernel_rfl, by kernel_rfl, by kernel_rfl, by kernel_rfl, by kernel_rfl, by kernel_rfl⟩, ?_⟩ | refine ⟨⟨by kernel_rfl, by kernel_rfl, by kernel_rfl, by kernel_rfl, by kernel_rfl, by kernel_rfl, by kernel_rfl, by kernel_rfl, by kernel_rfl⟩, ?_⟩ | refine ⟨⟨by kernel_rfl, by kernel_rfl, by kernel_rfl, by kernel_rfl, by kernel_rfl, by kernel_rfl, by kernel_rfl, by kernel_rfl, by kernel_rfl, by kernel_rfl⟩, ?_⟩ | refine ⟨⟨by kernel_rfl, by kernel_rfl, by kernel_rfl, by kernel_rfl, by kernel_rfl, by kernel_rfl, by kernel_rfl, by kernel_rfl, by kernel_rfl, by kernel_rfl, by kernel_rfl⟩, ?_⟩ | refine ⟨⟨by kernel_rfl, by kernel_rfl, by kernel_rfl, by kernel_rfl, by kernel_rfl, by kernel_rfl, by kernel_rfl, by kernel_rfl, by kernel_rfl, by kernel_rfl, by kernel_rfl, by kernel_rfl⟩, ?_⟩ | refine ⟨⟨by kernel_rfl, by kernel_rfl, by kernel_rfl, by kernel_rfl, by kernel_rfl, by kernel_rfl, by kernel_rfl, by kernel_rfl, by kernel_rfl, by kernel_rfl, by kernel_rfl, by kernel_rfl, by kernel_rfl⟩, ?_⟩)
  refine hR _ (fin_of0 ?_)
  simp (maxSteps := 2000000) only [enA, ↓enP, Nat.reduceAdd, Nat.reduceMul, Nat.reduceSub, Nat.reduceLT, Nat.reduceLeDiff, Nat.reduceEqDiff, Nat.reduceBEq, ↓reduceIte, reduceCtorEq, fA]
end Go.Proofs.Ytmkholodkejomaa.Ab.T08
