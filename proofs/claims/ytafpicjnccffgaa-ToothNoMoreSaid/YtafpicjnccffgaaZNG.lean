/- ToothMay: what is sawn in truth may be sawn. -/
import Derived.Test.YtafpicjnccffgaaZNF
import Derived.Test.YtafpicjnccffgaaZR1
import Derived.Test.YtafpicjnccffgaaZF1
namespace Go.Proofs.Ytafpicjnccffgaa.Ab.T01
open Go Go.RowKit
set_option linter.unusedSimpArgs false
set_option linter.unusedVariables false
set_option maxRecDepth 100000
set_option pp.maxSteps 1000000
set_option pp.deepTerms true
/-- What is sawn out of the blade in bytes. -/
def sawT (x : Tk) (w : List Int) : List (Int × Int) := sawnL (lowsT x (numT x)) (topsT x (numT x)) (pksT x (numC x)) (swT x) w
theorem sawT_ok {x : Tk} (hx : x.Ok) (w : List Int) : (sawT x w).Pairwise (After (swT x)) ∧ ∀ p ∈ sawT x w, OnBlade (realV x) (swT x) p ∧ soundI (realV x) (swT x) p = true := by
  have hs0 := saw_swT hx
  unfold sawOk at hs0
  simp only [Bool.and_eq_true] at hs0
  have s1 := betw1 hs0.1.1
  have s2 := betw1 hs0.1.2
  have s3 := betw2 hs0.2
  have hst : 1 ≤ stepN (swT x) := by unfold stepN; omega
  have hsN : ((stepN (swT x) : Nat) : Int) = (swT x).long + (swT x).across := by unfold stepN; omega
  have hll : 1 ≤ (swT x).long.toNat := by omega
  have t1 : 1 ≤ stN (swT x) := by unfold stN; omega
  have tN : ((stN (swT x) : Nat) : Int) = (swT x).wide + (swT x).kerf := by unfold stN; omega
  obtain ⟨h1, h2⟩ := saw_chain (g := fun (X : Nat) (y : Int) => soundI (realV x) (swT x) ((X : Int), y)) (w := w) (n := (lowsT x (numT x)).length) hst hll t1 tN hsN _ 0 0 (Nat.le_refl _)
  refine ⟨h1, fun p hp => ?_⟩
  obtain ⟨a, b, c, d, e⟩ := h2 p hp
  have ep : ((p.1.toNat : Nat) : Int) = p.1 := by omega
  refine ⟨⟨by omega, ?_, c, d⟩, ?_⟩
  · show p.1 + (swT x).long ≤ ((lowsT x (numT x)).length : Int)
    omega
  · have e : soundI (realV x) (swT x) (((p.1.toNat : Nat) : Int), p.2) = true := e
    rw [ep] at e
    exact e
theorem fits_tk {x : Tk} (hx : x.Ok) {p : Int × Int} (hB : OnBlade (realV x) (swT x) p) (hS : soundI (realV x) (swT x) p = true) : fitsErr (blT x) (swT x) p = 0 ∧ fitsR (blT x) (swT x) p = (soundI (sureB (blT x)) (swT x) p, true) := by
  have h : fitsErr (blT x) (swT x) p = 0 := by
    unfold fitsErr
    rw [if_neg (by rw [open_tk hx]; simp), if_pos (place_tk hB)]
  refine ⟨h, ?_⟩
  unfold fitsR
  rw [if_pos h, poss_true hx hB hS]
theorem fault_tk {x : Tk} (hx : x.Ok) {p : Int × Int} (hB : OnBlade (realV x) (swT x) p) : faultR (blT x) (swT x) [p] = if soundI (sureB (blT x)) (swT x) p then (0, 7) else (0, 0) := by
  unfold faultR
  have h2 : placesOk (blT x) (swT x) [p] = true := by
    unfold placesOk
    rw [List.all_cons, List.all_nil, place_tk hB]
    rfl
  rw [if_neg (by rw [open_tk hx]; simp), if_neg (by simp), h2, if_neg (by simp)]
  have e : faultO (sureB (blT x)) (swT x) [p] = if soundI (sureB (blT x)) (swT x) p then none else some 0 := by
    show (List.range 1).find? (badAt (sureB (blT x)) (swT x) [p]) = _
    have e0 : badAt (sureB (blT x)) (swT x) [p] 0 = !soundI (sureB (blT x)) (swT x) p := by
      unfold badAt
      rw [List.take_zero, List.any_nil, Bool.or_false]
      rfl
    rw [show List.range 1 = [0] from rfl, List.find?_cons, e0]
    cases soundI (sureB (blT x)) (swT x) p <;> rfl
  rw [e]
  cases soundI (sureB (blT x)) (swT x) p <;> rfl
set_option maxHeartbeats 4000000 in
theorem may_spec (x : Tk) (hx : x.Ok) (w : List Int) (hw : ∀ n ∈ w, By n) : SpecF Try.prog 7 [.agg [.sl 4 (x.cols.map c4R), .v (.int .u8 x.bend), .sl 6 (x.cracks.map c6R), .v (.int .u8 x.saw.a), .v (.int .u8 x.saw.b), .v (.int .u8 x.saw.c), .v (.int .u8 x.saw.d)], .sl 1 (w.map u8R)] (.v (.bool true)) [] := by
  have hsm := small_blT x
  have hb1 := hsm.bottom
  have hb2 := hsm.top
  have hop := open_tk hx
  have hnT := numT_bd x
  obtain ⟨hch, hpl⟩ := sawT_ok hx w
  have hpo := chain_poss hx hch (fun p hp => (hpl p hp).1) (fun p hp => (hpl p hp).2)
  have hsaw := sawn_spec (lowsT x (numT x)) (topsT x (numT x)) (pksT x (numC x)) (swT x) w (saw_swT hx) (by rw [lows_len, tops_len]) (by rw [lows_len]; omega) (by rw [pks_len]; unfold numC; omega) hw
  have hps := possible_spec (blT x) (swT x) (by omega) (by omega)
  rw [hop] at hps
  have hown := own_spec (blT x) hsm
  have hfit : ∀ p, p ∈ sawT x w → SpecF Try.prog 16 [.agg [.sl 2 ((blT x).bottom.map spR), .sl 2 ((blT x).top.map spR), .v (.int .i64 (blT x).bend), .sl 6 ((blT x).cracks.map crR)], .agg [.v (.int .i64 (swT x).long), .v (.int .i64 (swT x).wide), .v (.int .i64 (swT x).kerf), .v (.int .i64 (swT x).across)], .agg [.v (.int .i64 p.1), .v (.int .i64 p.2)]]
      (.tup [.v (.bool (soundI (sureB (blT x)) (swT x) p)), .v (.bool true), .v (.int .i64 0)]) [] := fun p hp => by
    obtain ⟨f1, f2⟩ := fits_tk hx (hpl p hp).1 (hpl p hp).2
    have := fits_spec (blT x) (swT x) p (by omega) (by omega)
    rw [f1, f2] at this
    exact this
  have hfau : ∀ p, p ∈ sawT x w → SpecF Try.prog 31 [.agg [.sl 2 ((blT x).bottom.map spR), .sl 2 ((blT x).top.map spR), .v (.int .i64 (blT x).bend), .sl 6 ((blT x).cracks.map crR)], .agg [.v (.int .i64 (swT x).long), .v (.int .i64 (swT x).wide), .v (.int .i64 (swT x).kerf), .v (.int .i64 (swT x).across)], .sl 2 [[.v (.int .i64 p.1), .v (.int .i64 p.2)]]]
      (.tup [.v (.int .i64 0), .v (.int .i64 (if soundI (sureB (blT x)) (swT x) p then 7 else 0))]) [] := fun p hp => by
    have := fault_spec (blT x) (swT x) [p] (by omega) (by omega)
    rw [fault_tk hx (hpl p hp).1] at this
    cases hs : soundI (sureB (blT x)) (swT x) p
    · rw [hs] at this; exact this
    · rw [hs] at this; exact this
  have htk := tusk_spec x hx
  have hP : sawnL (lowsT x (numT x)) (topsT x (numT x)) (pksT x (numC x)) (swT x) w = sawT x w := rfl
  rw [hP] at hsaw
  have hbe : bendT x = (blT x).bend := rfl
  rw [hbe] at htk
  obtain ⟨P, hPe⟩ : ∃ P, P = sawT x w := ⟨_, rfl⟩
  rw [← hPe] at hsaw hch hpo
  simp only [← hPe] at hpl hfit hfau
  clear hPe hP
  refine spec_go (N := 103) (rs := [.tmp 4]) (eq := eqs) rfl rfl fun_7 rfl (by kernel_rfl) (by kernel_rfl) (by simp) (by simp) (by simp) (by simp) fun R hR => ?_
  simp (maxSteps := 2000000) only [vcA, ↓vcP, ↓reduceIte, reduceCtorEq, Nat.reduceAdd, Nat.reduceMul, Nat.reduceSub, Nat.reduceLT, Nat.reduceLeDiff, Nat.reduceEqDiff, Nat.reduceBEq, Nat.reduceBNe, Nat.reduceGT, Nat.reduceDiv, Nat.reduceMod, Int.reduceAdd, Int.reduceSub, Int.reduceNeg, Int.reduceLT, Int.reduceLE, Int.reduceEq, Int.reduceToNat, fA]
  refine onF_data htk ?_ ?_
  · simp (maxSteps := 2000000) only [okA, ↓okP, Nat.reduceAdd, Nat.reduceMul, Nat.reduceSub, Nat.reduceLT, Nat.reduceLeDiff, Nat.reduceEqDiff, Nat.reduceBEq, ↓reduceIte, reduceCtorEq]
  simp (maxSteps := 2000000) only [vcA, ↓vcP, ↓reduceIte, reduceCtorEq, Nat.reduceAdd, Nat.reduceMul, Nat.reduceSub, Nat.reduceLT, Nat.reduceLeDiff, Nat.reduceEqDiff, Nat.reduceBEq, Nat.reduceBNe, Nat.reduceGT, Nat.reduceDiv, Nat.reduceMod, Int.reduceAdd, Int.reduceSub, Int.reduceNeg, Int.reduceLT, Int.reduceLE, Int.reduceEq, Int.reduceToNat, fA]
  refine onF_data hsaw ?_ ?_
  · simp (maxSteps := 2000000) only [okA, ↓okP, Nat.reduceAdd, Nat.reduceMul, Nat.reduceSub, Nat.reduceLT, Nat.reduceLeDiff, Nat.reduceEqDiff, Nat.reduceBEq, ↓reduceIte, reduceCtorEq]
  simp (maxSteps := 2000000) only [vcA, ↓vcP, ↓reduceIte, reduceCtorEq, Nat.reduceAdd, Nat.reduceMul, Nat.reduceSub, Nat.reduceLT, Nat.reduceLeDiff, Nat.reduceEqDiff, Nat.reduceBEq, Nat.reduceBNe, Nat.reduceGT, Nat.reduceDiv, Nat.reduceMod, Int.reduceAdd, Int.reduceSub, Int.reduceNeg, Int.reduceLT, Int.reduceLE, Int.reduceEq, Int.reduceToNat, fA]
  refine onF_data hown ?_ ?_
  · simp (maxSteps := 2000000) only [okA, ↓okP, Nat.reduceAdd, Nat.reduceMul, Nat.reduceSub, Nat.reduceLT, Nat.reduceLeDiff, Nat.reduceEqDiff, Nat.reduceBEq, ↓reduceIte, reduceCtorEq]
  simp (maxSteps := 2000000) only [vcA, ↓vcP, ↓reduceIte, reduceCtorEq, Nat.reduceAdd, Nat.reduceMul, Nat.reduceSub, Nat.reduceLT, Nat.reduceLeDiff, Nat.reduceEqDiff, Nat.reduceBEq, Nat.reduceBNe, Nat.reduceGT, Nat.reduceDiv, Nat.reduceMod, Int.reduceAdd, Int.reduceSub, Int.reduceNeg, Int.reduceLT, Int.reduceLE, Int.reduceEq, Int.reduceToNat, fA]
  refine onF_data hps ?_ ?_
  · simp (maxSteps := 2000000) only [okA, ↓okP, Nat.reduceAdd, Nat.reduceMul, Nat.reduceSub, Nat.reduceLT, Nat.reduceLeDiff, Nat.reduceEqDiff, Nat.reduceBEq, ↓reduceIte, reduceCtorEq]
  have b0 : ((0 : Int) != 0) = false := rfl
  have pp : ((P.length : Int) > (possR (blT x) (swT x)).1) = False := eq_false (by omega)
  have pp2 : ((P.length : Int) ≤ (possR (blT x) (swT x)).1) = True := eq_true hpo
  have pp3 : ((possR (blT x) (swT x)).1 < (P.length : Int)) = False := eq_false (by omega)
  simp (maxSteps := 2000000) only [vcA, ↓vcP, ↓reduceIte, reduceCtorEq, Nat.reduceAdd, Nat.reduceMul, Nat.reduceSub, Nat.reduceLT, Nat.reduceLeDiff, Nat.reduceEqDiff, Nat.reduceBEq, Nat.reduceBNe, Nat.reduceGT, Nat.reduceDiv, Nat.reduceMod, Int.reduceAdd, Int.reduceSub, Int.reduceNeg, Int.reduceLT, Int.reduceLE, Int.reduceEq, Int.reduceToNat, fA, b0, pp, pp2, pp3]
  repeat (first | refine ⟨by kernel_rfl, ?_⟩ | refine ⟨⟨by kernel_rfl, by kernel_rfl⟩, ?_⟩ | refine ⟨⟨by kernel_rfl, by kernel_rfl, by kernel_rfl⟩, ?_⟩ | refine ⟨⟨by kernel_rfl, by kernel_rfl, by kernel_rfl, by kernel_rfl⟩, ?_⟩ | refine ⟨⟨by kernel_rfl, by kernel_rfl, by kernel_rfl, by kernel_rfl, by kernel_rfl⟩, ?_⟩ | refine ⟨⟨by kernel_rfl, by kernel_rfl, by kernel_rfl, by kernel_rfl, by kernel_rfl, by kernel_rfl⟩, ?_⟩ | refine ⟨⟨by kernel_rfl, by kernel_rfl, by kernel_rfl, by kernel_rfl, by kernel_rfl, by kernel_rfl, by kernel_rfl⟩, ?_⟩ | refine ⟨⟨by kernel_rfl, by kernel_rfl, by kernel_rfl, by kernel_rfl, by kernel_rfl, by kernel_rfl, by kernel_rfl, by kernel_rfl⟩, ?_⟩ | refine ⟨⟨by kernel_rfl, by kernel_rfl, by kernel_rfl, by kernel_rfl, by kernel_rfl, by kernel_rfl, by kernel_rfl, by kernel_rfl, by kernel_rfl⟩, ?_⟩ | refine ⟨⟨by kernel_rfl, by kernel_rfl, by kernel_rfl, by kernel_rfl, by kernel_rfl, by kernel_rfl, by kernel_rfl, by kernel_rfl, by kernel_rfl, by kernel_rfl⟩, ?_⟩ | refine ⟨⟨by kernel_rfl, by kernel_rfl, by kernel_rfl, by kernel_rfl, by kernel_rfl, by kernel_rfl, by kernel_rfl, by kernel_rfl, by kernel_rfl, by kernel_rfl, by kernel_rfl⟩, ?_⟩ | refine ⟨⟨by kernel_rfl, by kernel_rfl, by kernel_rfl, by kernel_rfl, by kernel_rfl, by kernel_rfl, by kernel_rfl, by kernel_rfl, by kernel_rfl, by kernel_rfl, by kernel_rfl, by kernel_rfl⟩, ?_⟩ | refine ⟨⟨by kernel_rfl, by kernel_rfl, by kernel_rfl, by kernel_rfl, by kernel_rfl, by kernel_rfl, by kernel_rfl, by kernel_rfl, by kernel_rfl, by kernel_rfl, by kernel_rfl, by kernel_rfl, by kernel_rfl⟩, ?_⟩)
  refine goC_loop (α := {i : Nat // i ≤ P.length ∧ i ≤ 12}) (fun y => ⟨[(5, .ptr 72 0), (6, .ptr 80 0), (8, .sl 2 (P.map plcR)), (12, .v (.int .i64 (y.1 : Int)))], [(72, .box 25 [.sl 2 ((blT x).bottom.map spR), .sl 2 ((blT x).top.map spR), .v (.int .i64 (blT x).bend), .sl 6 ((blT x).cracks.map crR)]), (80, .box 27 [.v (.int .i64 (swT x).long), .v (.int .i64 (swT x).wide), .v (.int .i64 (swT x).kerf), .v (.int .i64 (swT x).across)])]⟩) (fun y => P.length - y.1) ⟨0, by omega, by omega⟩ [] ?_ ?_
  · simp (maxSteps := 2000000) only [enA, ↓enP, Nat.reduceAdd, Nat.reduceMul, Nat.reduceSub, Nat.reduceLT, Nat.reduceLeDiff, Nat.reduceEqDiff, Nat.reduceBEq, ↓reduceIte, reduceCtorEq, fA]
    simp
  intro y B hB
  obtain ⟨i, hi, h12⟩ := y
  simp only at hB ⊢
  by_cases ci : i < P.length ∧ i < 12
  · obtain ⟨c1, c2⟩ := ci
    have q1 : (i < P.length) = True := eq_true c1
    have q2 : (i < 12) = True := eq_true c2
    have q3 : ((i : Int) < 12) = True := eq_true (by omega)
    have ei : IntKind.i64.wrap ((i : Int) + 1) = ((i + 1 : Nat) : Int) := wrap_id (by omega) (by omega)
    have hf1 := hfit (nth P i) (nth_mem c1)
    have hf2 := hfau (nth P i) (nth_mem c1)
    simp (maxSteps := 2000000) only [vcA, ↓vcP, ↓reduceIte, reduceCtorEq, Nat.reduceAdd, Nat.reduceMul, Nat.reduceSub, Nat.reduceLT, Nat.reduceLeDiff, Nat.reduceEqDiff, Nat.reduceBEq, Nat.reduceBNe, Nat.reduceGT, Nat.reduceDiv, Nat.reduceMod, Int.reduceAdd, Int.reduceSub, Int.reduceNeg, Int.reduceLT, Int.reduceLE, Int.reduceEq, Int.reduceToNat, fA, q1, q2, q3]
    refine onF_data hown ?_ ?_
    · simp (maxSteps := 2000000) only [okA, ↓okP, Nat.reduceAdd, Nat.reduceMul, Nat.reduceSub, Nat.reduceLT, Nat.reduceLeDiff, Nat.reduceEqDiff, Nat.reduceBEq, ↓reduceIte, reduceCtorEq]
    simp (maxSteps := 2000000) only [vcA, ↓vcP, ↓reduceIte, reduceCtorEq, Nat.reduceAdd, Nat.reduceMul, Nat.reduceSub, Nat.reduceLT, Nat.reduceLeDiff, Nat.reduceEqDiff, Nat.reduceBEq, Nat.reduceBNe, Nat.reduceGT, Nat.reduceDiv, Nat.reduceMod, Int.reduceAdd, Int.reduceSub, Int.reduceNeg, Int.reduceLT, Int.reduceLE, Int.reduceEq, Int.reduceToNat, fA, q1, plcR]
    refine onF_data hf1 ?_ ?_
    · simp (maxSteps := 2000000) only [okA, ↓okP, Nat.reduceAdd, Nat.reduceMul, Nat.reduceSub, Nat.reduceLT, Nat.reduceLeDiff, Nat.reduceEqDiff, Nat.reduceBEq, ↓reduceIte, reduceCtorEq]
    simp (maxSteps := 2000000) only [vcA, ↓vcP, ↓reduceIte, reduceCtorEq, Nat.reduceAdd, Nat.reduceMul, Nat.reduceSub, Nat.reduceLT, Nat.reduceLeDiff, Nat.reduceEqDiff, Nat.reduceBEq, Nat.reduceBNe, Nat.reduceGT, Nat.reduceDiv, Nat.reduceMod, Int.reduceAdd, Int.reduceSub, Int.reduceNeg, Int.reduceLT, Int.reduceLE, Int.reduceEq, Int.reduceToNat, fA, q1, plcR]
    repeat (first | refine ⟨by kernel_rfl, ?_⟩ | refine ⟨⟨by kernel_rfl, by kernel_rfl⟩, ?_⟩ | refine ⟨⟨by kernel_rfl, by kernel_rfl, by kernel_rfl⟩, ?_⟩ | refine ⟨⟨by kernel_rfl, by kernel_rfl, by kernel_rfl, by kernel_rfl⟩, ?_⟩ | refine ⟨⟨by kernel_rfl, by kernel_rfl, by kernel_rfl, by kernel_rfl, by kernel_rfl⟩, ?_⟩ | refine ⟨⟨by kernel_rfl, by kernel_rfl, by kernel_rfl, by kernel_rfl, by kernel_rfl, by kernel_rfl⟩, ?_⟩ | refine ⟨⟨by kernel_rfl, by kernel_rfl, by kernel_rfl, by kernel_rfl, by kernel_rfl, by kernel_rfl, by kernel_rfl⟩, ?_⟩ | refine ⟨⟨by kernel_rfl, by kernel_rfl, by kernel_rfl, by kernel_rfl, by kernel_rfl, by kernel_rfl, by kernel_rfl, by kernel_rfl⟩, ?_⟩ | refine ⟨⟨by kernel_rfl, by kernel_rfl, by kernel_rfl, by kernel_rfl, by kernel_rfl, by kernel_rfl, by kernel_rfl, by kernel_rfl, by kernel_rfl⟩, ?_⟩ | refine ⟨⟨by kernel_rfl, by kernel_rfl, by kernel_rfl, by kernel_rfl, by kernel_rfl, by kernel_rfl, by kernel_rfl, by kernel_rfl, by kernel_rfl, by kernel_rfl⟩, ?_⟩ | refine ⟨⟨by kernel_rfl, by kernel_rfl, by kernel_rfl, by kernel_rfl, by kernel_rfl, by kernel_rfl, by kernel_rfl, by kernel_rfl, by kernel_rfl, by kernel_rfl, by kernel_rfl⟩, ?_⟩ | refine ⟨⟨by kernel_rfl, by kernel_rfl, by kernel_rfl, by kernel_rfl, by kernel_rfl, by kernel_rfl, by kernel_rfl, by kernel_rfl, by kernel_rfl, by kernel_rfl, by kernel_rfl, by kernel_rfl⟩, ?_⟩ | refine ⟨⟨by kernel_rfl, by kernel_rfl, by kernel_rfl, by kernel_rfl, by kernel_rfl, by kernel_rfl, by kernel_rfl, by kernel_rfl, by kernel_rfl, by kernel_rfl, by kernel_rfl, by kernel_rfl, by kernel_rfl⟩, ?_⟩)
    refine onF_data hown ?_ ?_
    · simp (maxSteps := 2000000) only [okA, ↓okP, Nat.reduceAdd, Nat.reduceMul, Nat.reduceSub, Nat.reduceLT, Nat.reduceLeDiff, Nat.reduceEqDiff, Nat.reduceBEq, ↓reduceIte, reduceCtorEq]
    simp (maxSteps := 2000000) only [vcA, ↓vcP, ↓reduceIte, reduceCtorEq, Nat.reduceAdd, Nat.reduceMul, Nat.reduceSub, Nat.reduceLT, Nat.reduceLeDiff, Nat.reduceEqDiff, Nat.reduceBEq, Nat.reduceBNe, Nat.reduceGT, Nat.reduceDiv, Nat.reduceMod, Int.reduceAdd, Int.reduceSub, Int.reduceNeg, Int.reduceLT, Int.reduceLE, Int.reduceEq, Int.reduceToNat, fA, q1, plcR]
    refine onF_call hf2 [592] [] [] ?_ ?_
    · simp (maxSteps := 2000000) only [okA, ↓okP, Nat.reduceAdd, Nat.reduceMul, Nat.reduceSub, Nat.reduceLT, Nat.reduceLeDiff, Nat.reduceEqDiff, Nat.reduceBEq, ↓reduceIte, reduceCtorEq]
    cases hsd : soundI (sureB (blT x)) (swT x) (nth P i) with
    | true =>
      have b7 : ((7 : Int) == 7) = true := rfl
      have b70 : ((7 : Int) != 0) = true := rfl
      simp (maxSteps := 2000000) only [vcA, ↓vcP, ↓reduceIte, reduceCtorEq, Nat.reduceAdd, Nat.reduceMul, Nat.reduceSub, Nat.reduceLT, Nat.reduceLeDiff, Nat.reduceEqDiff, Nat.reduceBEq, Nat.reduceBNe, Nat.reduceGT, Nat.reduceDiv, Nat.reduceMod, Int.reduceAdd, Int.reduceSub, Int.reduceNeg, Int.reduceLT, Int.reduceLE, Int.reduceEq, Int.reduceToNat, fA, b0, b7, b70]
      repeat (first | refine ⟨by kernel_rfl, ?_⟩ | refine ⟨⟨by kernel_rfl, by kernel_rfl⟩, ?_⟩ | refine ⟨⟨by kernel_rfl, by kernel_rfl, by kernel_rfl⟩, ?_⟩ | refine ⟨⟨by kernel_rfl, by kernel_rfl, by kernel_rfl, by kernel_rfl⟩, ?_⟩ | refine ⟨⟨by kernel_rfl, by kernel_rfl, by kernel_rfl, by kernel_rfl, by kernel_rfl⟩, ?_⟩ | refine ⟨⟨by kernel_rfl, by kernel_rfl, by kernel_rfl, by kernel_rfl, by kernel_rfl, by kernel_rfl⟩, ?_⟩ | refine ⟨⟨by kernel_rfl, by kernel_rfl, by kernel_rfl, by kernel_rfl, by kernel_rfl, by kernel_rfl, by kernel_rfl⟩, ?_⟩ | refine ⟨⟨by kernel_rfl, by kernel_rfl, by kernel_rfl, by kernel_rfl, by kernel_rfl, by kernel_rfl, by kernel_rfl, by kernel_rfl⟩, ?_⟩ | refine ⟨⟨by kernel_rfl, by kernel_rfl, by kernel_rfl, by kernel_rfl, by kernel_rfl, by kernel_rfl, by kernel_rfl, by kernel_rfl, by kernel_rfl⟩, ?_⟩ | refine ⟨⟨by kernel_rfl, by kernel_rfl, by kernel_rfl, by kernel_rfl, by kernel_rfl, by kernel_rfl, by kernel_rfl, by kernel_rfl, by kernel_rfl, by kernel_rfl⟩, ?_⟩ | refine ⟨⟨by kernel_rfl, by kernel_rfl, by kernel_rfl, by kernel_rfl, by kernel_rfl, by kernel_rfl, by kernel_rfl, by kernel_rfl, by kernel_rfl, by kernel_rfl, by kernel_rfl⟩, ?_⟩ | refine ⟨⟨by kernel_rfl, by kernel_rfl, by kernel_rfl, by kernel_rfl, by kernel_rfl, by kernel_rfl, by kernel_rfl, by kernel_rfl, by kernel_rfl, by kernel_rfl, by kernel_rfl, by kernel_rfl⟩, ?_⟩ | refine ⟨⟨by kernel_rfl, by kernel_rfl, by kernel_rfl, by kernel_rfl, by kernel_rfl, by kernel_rfl, by kernel_rfl, by kernel_rfl, by kernel_rfl, by kernel_rfl, by kernel_rfl, by kernel_rfl, by kernel_rfl⟩, ?_⟩)
      refine hB _ ⟨i + 1, by omega, by omega⟩ [] (by simp only; omega) rfl ?_
      simp (maxSteps := 2000000) only [enA, ↓enP, Nat.reduceAdd, Nat.reduceMul, Nat.reduceSub, Nat.reduceLT, Nat.reduceLeDiff, Nat.reduceEqDiff, Nat.reduceBEq, ↓reduceIte, reduceCtorEq, fA, ei]
    | false =>
      have b7 : ((0 : Int) == 7) = false := rfl
      simp (maxSteps := 2000000) only [vcA, ↓vcP, ↓reduceIte, reduceCtorEq, Nat.reduceAdd, Nat.reduceMul, Nat.reduceSub, Nat.reduceLT, Nat.reduceLeDiff, Nat.reduceEqDiff, Nat.reduceBEq, Nat.reduceBNe, Nat.reduceGT, Nat.reduceDiv, Nat.reduceMod, Int.reduceAdd, Int.reduceSub, Int.reduceNeg, Int.reduceLT, Int.reduceLE, Int.reduceEq, Int.reduceToNat, fA, b0, b7]
      repeat (first | refine ⟨by kernel_rfl, ?_⟩ | refine ⟨⟨by kernel_rfl, by kernel_rfl⟩, ?_⟩ | refine ⟨⟨by kernel_rfl, by kernel_rfl, by kernel_rfl⟩, ?_⟩ | refine ⟨⟨by kernel_rfl, by kernel_rfl, by kernel_rfl, by kernel_rfl⟩, ?_⟩ | refine ⟨⟨by kernel_rfl, by kernel_rfl, by kernel_rfl, by kernel_rfl, by kernel_rfl⟩, ?_⟩ | refine ⟨⟨by kernel_rfl, by kernel_rfl, by kernel_rfl, by kernel_rfl, by kernel_rfl, by kernel_rfl⟩, ?_⟩ | refine ⟨⟨by kernel_rfl, by kernel_rfl, by kernel_rfl, by kernel_rfl, by kernel_rfl, by kernel_rfl, by kernel_rfl⟩, ?_⟩ | refine ⟨⟨by kernel_rfl, by kernel_rfl, by kernel_rfl, by kernel_rfl, by kernel_rfl, by kernel_rfl, by kernel_rfl, by kernel_rfl⟩, ?_⟩ | refine ⟨⟨by kernel_rfl, by kernel_rfl, by kernel_rfl, by kernel_rfl, by kernel_rfl, by kernel_rfl, by kernel_rfl, by kernel_rfl, by kernel_rfl⟩, ?_⟩ | refine ⟨⟨by kernel_rfl, by kernel_rfl, by kernel_rfl, by kernel_rfl, by kernel_rfl, by kernel_rfl, by kernel_rfl, by kernel_rfl, by kernel_rfl, by kernel_rfl⟩, ?_⟩ | refine ⟨⟨by kernel_rfl, by kernel_rfl, by kernel_rfl, by kernel_rfl, by kernel_rfl, by kernel_rfl, by kernel_rfl, by kernel_rfl, by kernel_rfl, by kernel_rfl, by kernel_rfl⟩, ?_⟩ | refine ⟨⟨by kernel_rfl, by kernel_rfl, by kernel_rfl, by kernel_rfl, by kernel_rfl, by kernel_rfl, by kernel_rfl, by kernel_rfl, by kernel_rfl, by kernel_rfl, by kernel_rfl, by kernel_rfl⟩, ?_⟩ | refine ⟨⟨by kernel_rfl, by kernel_rfl, by kernel_rfl, by kernel_rfl, by kernel_rfl, by kernel_rfl, by kernel_rfl, by kernel_rfl, by kernel_rfl, by kernel_rfl, by kernel_rfl, by kernel_rfl, by kernel_rfl⟩, ?_⟩)
      refine hB _ ⟨i + 1, by omega, by omega⟩ [] (by simp only; omega) rfl ?_
      simp (maxSteps := 2000000) only [enA, ↓enP, Nat.reduceAdd, Nat.reduceMul, Nat.reduceSub, Nat.reduceLT, Nat.reduceLeDiff, Nat.reduceEqDiff, Nat.reduceBEq, ↓reduceIte, reduceCtorEq, fA, ei]
  by_cases c1 : i < P.length
  · have q1 : (i < P.length) = True := eq_true c1
    have q2 : (i < 12) = False := eq_false (by omega)
    have q3 : ((i : Int) < 12) = False := eq_false (by omega)
    simp (maxSteps := 2000000) only [vcA, ↓vcP, ↓reduceIte, reduceCtorEq, Nat.reduceAdd, Nat.reduceMul, Nat.reduceSub, Nat.reduceLT, Nat.reduceLeDiff, Nat.reduceEqDiff, Nat.reduceBEq, Nat.reduceBNe, Nat.reduceGT, Nat.reduceDiv, Nat.reduceMod, Int.reduceAdd, Int.reduceSub, Int.reduceNeg, Int.reduceLT, Int.reduceLE, Int.reduceEq, Int.reduceToNat, fA, q1, q2, q3]
    refine onF_data known_spec ?_ ?_
    · simp (maxSteps := 2000000) only [okA, ↓okP, Nat.reduceAdd, Nat.reduceMul, Nat.reduceSub, Nat.reduceLT, Nat.reduceLeDiff, Nat.reduceEqDiff, Nat.reduceBEq, ↓reduceIte, reduceCtorEq]
    simp (maxSteps := 2000000) only [vcA, ↓vcP, ↓reduceIte, reduceCtorEq, Nat.reduceAdd, Nat.reduceMul, Nat.reduceSub, Nat.reduceLT, Nat.reduceLeDiff, Nat.reduceEqDiff, Nat.reduceBEq, Nat.reduceBNe, Nat.reduceGT, Nat.reduceDiv, Nat.reduceMod, Int.reduceAdd, Int.reduceSub, Int.reduceNeg, Int.reduceLT, Int.reduceLE, Int.reduceEq, Int.reduceToNat, fA]
    refine hR _ (fin_of1 [] ?_)
    simp (maxSteps := 2000000) only [enA, ↓enP, Nat.reduceAdd, Nat.reduceMul, Nat.reduceSub, Nat.reduceLT, Nat.reduceLeDiff, Nat.reduceEqDiff, Nat.reduceBEq, ↓reduceIte, reduceCtorEq, fA]
  · have q1 : (i < P.length) = False := eq_false c1
    simp (maxSteps := 2000000) only [vcA, ↓vcP, ↓reduceIte, reduceCtorEq, Nat.reduceAdd, Nat.reduceMul, Nat.reduceSub, Nat.reduceLT, Nat.reduceLeDiff, Nat.reduceEqDiff, Nat.reduceBEq, Nat.reduceBNe, Nat.reduceGT, Nat.reduceDiv, Nat.reduceMod, Int.reduceAdd, Int.reduceSub, Int.reduceNeg, Int.reduceLT, Int.reduceLE, Int.reduceEq, Int.reduceToNat, fA, q1]
    refine onF_data known_spec ?_ ?_
    · simp (maxSteps := 2000000) only [okA, ↓okP, Nat.reduceAdd, Nat.reduceMul, Nat.reduceSub, Nat.reduceLT, Nat.reduceLeDiff, Nat.reduceEqDiff, Nat.reduceBEq, ↓reduceIte, reduceCtorEq]
    simp (maxSteps := 2000000) only [vcA, ↓vcP, ↓reduceIte, reduceCtorEq, Nat.reduceAdd, Nat.reduceMul, Nat.reduceSub, Nat.reduceLT, Nat.reduceLeDiff, Nat.reduceEqDiff, Nat.reduceBEq, Nat.reduceBNe, Nat.reduceGT, Nat.reduceDiv, Nat.reduceMod, Int.reduceAdd, Int.reduceSub, Int.reduceNeg, Int.reduceLT, Int.reduceLE, Int.reduceEq, Int.reduceToNat, fA]
    refine hR _ (fin_of1 [] ?_)
    simp (maxSteps := 2000000) only [enA, ↓enP, Nat.reduceAdd, Nat.reduceMul, Nat.reduceSub, Nat.reduceLT, Nat.reduceLeDiff, Nat.reduceEqDiff, Nat.reduceBEq, ↓reduceIte, reduceCtorEq, fA]
end Go.Proofs.Ytafpicjnccffgaa.Ab.T01
