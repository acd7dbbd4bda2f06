/- Contracts of the outworkers' reference: what settles. -/
import Derived.Test.YtfnohamcmidgbaaZE9
namespace Go.Proofs.Ytfnohamcmidgbaa.Ab.T07
open Go Go.RowKit
set_option linter.unusedVariables false
set_option linter.unusedSimpArgs false
set_option maxRecDepth 100000
def settleX (h : Hs) (b : List En) (w : Int) (i : Nat) : Int := if settleI h (has (acc h b w i nof)) > 100000 then -1 else settleI h (has (acc h b w i nof))
theorem knA_def (k : Kn) : knA k = [.v (.int .i64 k.h.1), .v (.int .i64 k.h.2), .v (.int .i64 k.f.1), .v (.int .i64 k.f.2), .v (.int .i64 k.l.1), .v (.int .i64 k.l.2), .v (.bool k.t)] := rfl
set_option maxHeartbeats 4000000 in
theorem rsettle_spec (h : Hs) (b : List En) (w : Int) (i : Nat) (hb : Ok h b) (hT : trueB h b nof = true) (hw : 0 ≤ w ∧ w ≤ 5) (hi : i < h.tk.length) : SpecF Try.prog 40 [.agg [.v (.int .i64 h.sc), .sl 2 (h.tk.map spR), .sl 1 (h.lo.map iR)], .sl 4 (b.map enR), .v (.int .i64 w), .v (.int .i64 i)] (.v (.int .i64 (settleX h b w i))) [] := by
  have hsc := hb.hs.sc
  have hbd := acc_bd hb (w := w) (s := i) (by omega) nof
  have hth := true_high hT hw hi
  have hlb := loss_bd hbd (n := (acc h b w i nof).o1) ⟨hbd.o.1, by have := hbd.o; omega⟩
  have hK : ∀ c : Int, 0 ≤ c → c ≤ 200000 → SpecF Try.prog 84 [.agg [.v (.int .i64 h.sc), .sl 2 (h.tk.map spR), .sl 1 (h.lo.map iR)], .sl 4 (b.map enR), .v (.int .i64 w), .v (.int .i64 i), .v (.int .i64 c)] (.agg (knA (leftK h b w i c))) [] := fun c g1 g2 => left_spec h b w i c hb (by omega) ⟨g1, g2⟩
  have hKt := left_t h b w i
  have hKh := left_h h b w i
  have ex : settleX h b w i = if settleI h (has (acc h b w i nof)) > 100000 then -1 else settleI h (has (acc h b w i nof)) := rfl
  have hS : settleI h (has (acc h b w i nof)) = if high (acc h b w i nof) > h.sc then high (acc h b w i nof) else 0 := rfl
  have hhi : high (acc h b w i nof) = (acc h b w i nof).o2 - (acc h b w i nof).b1 - (acc h b w i nof).f1 := rfl
  obtain ⟨b1, b2, b3, b4⟩ := hbd
  generalize loss (acc h b w i nof) (acc h b w i nof).o1 = L at hlb hKh
  generalize acc h b w i nof = a at *
  generalize settleI h (has a) = S at ex hS
  generalize high a = g at *
  have hS0 : 0 ≤ S := by rw [hS]; split <;> omega
  obtain ⟨Z, hZ⟩ : ∃ Z, Z = min 100001 S := ⟨_, rfl⟩
  have H1 : ∀ c : Int, 0 ≤ c → c ≤ 100000 → (Z ≤ c ↔ g - max 0 (c - h.sc) ≤ h.sc) := fun c g1 g2 => by
    rw [hZ, hS]
    split <;> omega
  refine spec_go (N := 68) (rs := [.tmp 8]) (eq := eqs) rfl rfl fun_40 rfl (by kernel_rfl) (by kernel_rfl) (by simp) (by simp) (by simp) (by simp) fun R hR => ?_
  simp (maxSteps := 2000000) only [vcA, ↓vcP, ↓reduceIte, reduceCtorEq, Nat.reduceAdd, Nat.reduceMul, Nat.reduceSub, Nat.reduceLT, Nat.reduceLeDiff, Nat.reduceEqDiff, Nat.reduceBEq, Nat.reduceBNe, Nat.reduceGT, Nat.reduceDiv, Nat.reduceMod, Int.reduceAdd, Int.reduceSub, Int.reduceNeg, Int.reduceLT, Int.reduceLE, Int.reduceEq, Int.reduceToNat, fA]
  refine goC_loop (α := {y : Int × Int // 0 ≤ y.1 ∧ y.1 ≤ Z ∧ Z ≤ y.2 ∧ y.2 ≤ 100001}) (fun y => ⟨[(1, .sl 4 (b.map enR)), (2, .v (.int .i64 w)), (3, .v (.int .i64 i)), (4, .ptr 8 0), (9, .v (.int .i64 y.1.1)), (10, .v (.int .i64 y.1.2))], [(8, .box 25 [.v (.int .i64 h.sc), .sl 2 (h.tk.map spR), .sl 1 (h.lo.map iR)])]⟩) (fun y => (y.1.2 - y.1.1).toNat) ⟨(0, 100001), by simp only; omega, by simp only; omega, by simp only; omega, by simp only; omega⟩ [] ?_ ?_
  · simp (maxSteps := 2000000) only [enA, ↓enP, Nat.reduceAdd, Nat.reduceMul, Nat.reduceSub, Nat.reduceLT, Nat.reduceLeDiff, Nat.reduceEqDiff, Nat.reduceBEq, ↓reduceIte, reduceCtorEq, fA]
    try exact ⟨rfl, rfl⟩
  intro y B hB
  obtain ⟨⟨f, m⟩, g1, g2, g3, g4⟩ := y
  simp only at g1 g2 g3 g4
  by_cases c1 : f < m
  · have p1 : (f < m) = True := eq_true c1
    have e1 : IntKind.i64.wrap (f + m) = f + m := wrap_id (by omega) (by omega)
    have e2 : (f + m).tdiv 2 = (f + m) / 2 := quo_of (by omega)
    have e3 : IntKind.i64.wrap ((f + m) / 2) = (f + m) / 2 := wrap_id (by omega) (by omega)
    have e4 : IntKind.i64.wrap ((f + m) / 2 + 1) = (f + m) / 2 + 1 := wrap_id (by omega) (by omega)
    have k1 := hK ((f + m) / 2) (by omega) (by omega)
    have k2 := hKt ((f + m) / 2)
    have k3 := hKh ((f + m) / 2)
    have k4 := H1 ((f + m) / 2) (by omega) (by omega)
    generalize leftK h b w i ((f + m) / 2) = K at k1 k2 k3
    simp (maxSteps := 2000000) only [vcA, ↓vcP, ↓reduceIte, reduceCtorEq, Nat.reduceAdd, Nat.reduceMul, Nat.reduceSub, Nat.reduceLT, Nat.reduceLeDiff, Nat.reduceEqDiff, Nat.reduceBEq, Nat.reduceBNe, Nat.reduceGT, Nat.reduceDiv, Nat.reduceMod, Int.reduceAdd, Int.reduceSub, Int.reduceNeg, Int.reduceLT, Int.reduceLE, Int.reduceEq, Int.reduceToNat, fA, p1, e1, e2, e3]
    refine onF_data k1 ?_ ?_
    · simp (maxSteps := 2000000) only [okA, ↓okP, Nat.reduceAdd, Nat.reduceMul, Nat.reduceSub, Nat.reduceLT, Nat.reduceLeDiff, Nat.reduceEqDiff, Nat.reduceBEq, ↓reduceIte, reduceCtorEq, knA_def]
    cases hKK : K.t with
    | false =>
      rw [hKK] at k2
      have k5 := of_decide_eq_false k2.symm
      simp (maxSteps := 2000000) only [vcA, ↓vcP, ↓reduceIte, reduceCtorEq, Nat.reduceAdd, Nat.reduceMul, Nat.reduceSub, Nat.reduceLT, Nat.reduceLeDiff, Nat.reduceEqDiff, Nat.reduceBEq, Nat.reduceBNe, Nat.reduceGT, Nat.reduceDiv, Nat.reduceMod, Int.reduceAdd, Int.reduceSub, Int.reduceNeg, Int.reduceLT, Int.reduceLE, Int.reduceEq, Int.reduceToNat, fA, knA_def, hKK]
      refine hB _ ⟨(f, (f + m) / 2), by simp only; omega⟩ [] (by simp only; omega) rfl ?_
      simp (maxSteps := 2000000) only [enA, ↓enP, Nat.reduceAdd, Nat.reduceMul, Nat.reduceSub, Nat.reduceLT, Nat.reduceLeDiff, Nat.reduceEqDiff, Nat.reduceBEq, ↓reduceIte, reduceCtorEq, fA]
      try exact ⟨rfl, rfl⟩
    | true =>
      rw [hKK] at k2
      have k5 := of_decide_eq_true k2.symm
      obtain ⟨k6, k7⟩ := k3 k5
      by_cases c2 : K.h.2 ≤ h.sc
      · have p2 : (K.h.2 ≤ h.sc) = True := eq_true c2
        simp (maxSteps := 2000000) only [vcA, ↓vcP, ↓reduceIte, reduceCtorEq, Nat.reduceAdd, Nat.reduceMul, Nat.reduceSub, Nat.reduceLT, Nat.reduceLeDiff, Nat.reduceEqDiff, Nat.reduceBEq, Nat.reduceBNe, Nat.reduceGT, Nat.reduceDiv, Nat.reduceMod, Int.reduceAdd, Int.reduceSub, Int.reduceNeg, Int.reduceLT, Int.reduceLE, Int.reduceEq, Int.reduceToNat, fA, knA_def, hKK, p2]
        refine hB _ ⟨(f, (f + m) / 2), by simp only; omega⟩ [] (by simp only; omega) rfl ?_
        simp (maxSteps := 2000000) only [enA, ↓enP, Nat.reduceAdd, Nat.reduceMul, Nat.reduceSub, Nat.reduceLT, Nat.reduceLeDiff, Nat.reduceEqDiff, Nat.reduceBEq, ↓reduceIte, reduceCtorEq, fA]
        try exact ⟨rfl, rfl⟩
      · have p2 : (K.h.2 ≤ h.sc) = False := eq_false c2
        simp (maxSteps := 2000000) only [vcA, ↓vcP, ↓reduceIte, reduceCtorEq, Nat.reduceAdd, Nat.reduceMul, Nat.reduceSub, Nat.reduceLT, Nat.reduceLeDiff, Nat.reduceEqDiff, Nat.reduceBEq, Nat.reduceBNe, Nat.reduceGT, Nat.reduceDiv, Nat.reduceMod, Int.reduceAdd, Int.reduceSub, Int.reduceNeg, Int.reduceLT, Int.reduceLE, Int.reduceEq, Int.reduceToNat, fA, knA_def, hKK, p2, e4]
        refine hB _ ⟨((f + m) / 2 + 1, m), by simp only; omega⟩ [] (by simp only; omega) rfl ?_
        simp (maxSteps := 2000000) only [enA, ↓enP, Nat.reduceAdd, Nat.reduceMul, Nat.reduceSub, Nat.reduceLT, Nat.reduceLeDiff, Nat.reduceEqDiff, Nat.reduceBEq, ↓reduceIte, reduceCtorEq, fA]
        try exact ⟨rfl, rfl⟩
  · have p1 : (f < m) = False := eq_false c1
    have : f = Z := by omega
    subst this
    have k1 := hK f (by omega) (by omega)
    have k2 := hKt f
    have k3 := hKh f
    generalize leftK h b w i f = K at k1 k2 k3
    simp (maxSteps := 2000000) only [vcA, ↓vcP, ↓reduceIte, reduceCtorEq, Nat.reduceAdd, Nat.reduceMul, Nat.reduceSub, Nat.reduceLT, Nat.reduceLeDiff, Nat.reduceEqDiff, Nat.reduceBEq, Nat.reduceBNe, Nat.reduceGT, Nat.reduceDiv, Nat.reduceMod, Int.reduceAdd, Int.reduceSub, Int.reduceNeg, Int.reduceLT, Int.reduceLE, Int.reduceEq, Int.reduceToNat, fA, p1]
    refine onF_data k1 ?_ ?_
    · simp (maxSteps := 2000000) only [okA, ↓okP, Nat.reduceAdd, Nat.reduceMul, Nat.reduceSub, Nat.reduceLT, Nat.reduceLeDiff, Nat.reduceEqDiff, Nat.reduceBEq, ↓reduceIte, reduceCtorEq, knA_def]
    by_cases c3 : f ≤ 100000
    · have p3 : (f ≤ 100000) = True := eq_true c3
      have eS : f = S := by omega
      have k4 := (H1 f (by omega) c3).1 (Int.le_refl _)
      have k5 : 0 ≤ g - max 0 (f - h.sc) := by rw [eS, hS]; split <;> omega
      rw [decide_eq_true k5] at k2
      obtain ⟨k6, k7⟩ := k3 k5
      have k8 : K.h.1 = 0 := by rw [k7]; omega
      have p4 : (K.h.1 == 0) = true := by rw [k8]; rfl
      have p5 : (K.h.2 ≤ h.sc) = True := eq_true (by omega)
      have e : settleX h b w i = f := by rw [ex, if_neg (by omega)]; exact eS.symm
      simp (maxSteps := 2000000) only [vcA, ↓vcP, ↓reduceIte, reduceCtorEq, Nat.reduceAdd, Nat.reduceMul, Nat.reduceSub, Nat.reduceLT, Nat.reduceLeDiff, Nat.reduceEqDiff, Nat.reduceBEq, Nat.reduceBNe, Nat.reduceGT, Nat.reduceDiv, Nat.reduceMod, Int.reduceAdd, Int.reduceSub, Int.reduceNeg, Int.reduceLT, Int.reduceLE, Int.reduceEq, Int.reduceToNat, fA, knA_def, p3, k2, p4, p5]
      repeat (first | refine ⟨by kernel_rfl, ?_⟩ | refine ⟨⟨by kernel_rfl, by kernel_rfl⟩, ?_⟩ | refine ⟨⟨by kernel_rfl, by kernel_rfl, by kernel_rfl⟩, ?_⟩ | refine ⟨⟨by kernel_rfl, by kernel_rfl, by kernel_rfl, by kernel_rfl⟩, ?_⟩ | refine ⟨⟨by kernel_rfl, by kernel_rfl, by kernel_rfl, by kernel_rfl, by kernel_rfl⟩, ?_⟩ | refine ⟨⟨by kernel_rfl, by kernel_rfl, by kernel_rfl, by kernel_rfl, by kernel_rfl, by kernel_rfl⟩, ?_⟩ | refine ⟨⟨by kernel_rfl, by kernel_rfl, by kernel_rfl, by kernel_rfl, by kernel_rfl, by kernel_rfl, by kernel_rfl⟩, ?_⟩ | refine ⟨⟨by kernel_rfl, by kernel_rfl, by kernel_rfl, by kernel_rfl, by kernel_rfl, by kernel_rfl, by kernel_rfl, by kernel_rfl⟩, ?_⟩ | refine ⟨⟨by kernel_rfl, by kernel_rfl, by kernel_rfl, by kernel_rfl, by kernel_rfl, by kernel_rfl, by kernel_rfl, by kernel_rfl, by kernel_rfl⟩, ?_⟩ | refine ⟨⟨by kernel_rfl, by kernel_rfl, by kernel_rfl, by kernel_rfl, by kernel_rfl, by kernel_rfl, by kernel_rfl, by kernel_rfl, by kernel_rfl, by kernel_rfl⟩, ?_⟩ | refine ⟨⟨by kernel_rfl, by kernel_rfl, by kernel_rfl, by kernel_rfl, by kernel_rfl, by kernel_rfl, by kernel_rfl, by kernel_rfl, by kernel_rfl, by kernel_rfl, by kernel_rfl⟩, ?_⟩ | refine ⟨⟨by kernel_rfl, by kernel_rfl, by kernel_rfl, by kernel_rfl, by kernel_rfl, by kernel_rfl, by kernel_rfl, by kernel_rfl, by kernel_rfl, by kernel_rfl, by kernel_rfl, by kernel_rfl⟩, ?_⟩ | refine ⟨⟨by kernel_rfl, by kernel_rfl, by kernel_rfl, by kernel_rfl, by kernel_rfl, by kernel_rfl, by kernel_rfl, by kernel_rfl, by kernel_rfl, by kernel_rfl, by kernel_rfl, by kernel_rfl, by kernel_rfl⟩, ?_⟩)
      refine hR _ (fin_of0 ?_)
      rw [e]
      simp (maxSteps := 2000000) only [enA, ↓enP, Nat.reduceAdd, Nat.reduceMul, Nat.reduceSub, Nat.reduceLT, Nat.reduceLeDiff, Nat.reduceEqDiff, Nat.reduceBEq, ↓reduceIte, reduceCtorEq, fA]
    · have p3 : (f ≤ 100000) = False := eq_false c3
      have e : settleX h b w i = -1 := by rw [ex, if_pos (by omega)]
      simp (maxSteps := 2000000) only [vcA, ↓vcP, ↓reduceIte, reduceCtorEq, Nat.reduceAdd, Nat.reduceMul, Nat.reduceSub, Nat.reduceLT, Nat.reduceLeDiff, Nat.reduceEqDiff, Nat.reduceBEq, Nat.reduceBNe, Nat.reduceGT, Nat.reduceDiv, Nat.reduceMod, Int.reduceAdd, Int.reduceSub, Int.reduceNeg, Int.reduceLT, Int.reduceLE, Int.reduceEq, Int.reduceToNat, fA, knA_def, p3]
      repeat (first | refine ⟨by kernel_rfl, ?_⟩ | refine ⟨⟨by kernel_rfl, by kernel_rfl⟩, ?_⟩ | refine ⟨⟨by kernel_rfl, by kernel_rfl, by kernel_rfl⟩, ?_⟩ | refine ⟨⟨by kernel_rfl, by kernel_rfl, by kernel_rfl, by kernel_rfl⟩, ?_⟩ | refine ⟨⟨by kernel_rfl, by kernel_rfl, by kernel_rfl, by kernel_rfl, by kernel_rfl⟩, ?_⟩ | refine ⟨⟨by kernel_rfl, by kernel_rfl, by kernel_rfl, by kernel_rfl, by kernel_rfl, by kernel_rfl⟩, ?_⟩ | refine ⟨⟨by kernel_rfl, by kernel_rfl, by kernel_rfl, by kernel_rfl, by kernel_rfl, by kernel_rfl, by kernel_rfl⟩, ?_⟩ | refine ⟨⟨by kernel_rfl, by kernel_rfl, by kernel_rfl, by kernel_rfl, by kernel_rfl, by kernel_rfl, by kernel_rfl, by kernel_rfl⟩, ?_⟩ | refine ⟨⟨by kernel_rfl, by kernel_rfl, by kernel_rfl, by kernel_rfl, by kernel_rfl, by kernel_rfl, by kernel_rfl, by kernel_rfl, by kernel_rfl⟩, ?_⟩ | refine ⟨⟨by kernel_rfl, by kernel_rfl, by kernel_rfl, by kernel_rfl, by kernel_rfl, by kernel_rfl, by kernel_rfl, by kernel_rfl, by kernel_rfl, by kernel_rfl⟩, ?_⟩ | refine ⟨⟨by kernel_rfl, by kernel_rfl, by kernel_rfl, by kernel_rfl, by kernel_rfl, by kernel_rfl, by kernel_rfl, by kernel_rfl, by kernel_rfl, by kernel_rfl, by kernel_rfl⟩, ?_⟩ | refine ⟨⟨by kernel_rfl, by kernel_rfl, by kernel_rfl, by kernel_rfl, by kernel_rfl, by kernel_rfl, by kernel_rfl, by kernel_rfl, by kernel_rfl, by kernel_rfl, by kernel_rfl, by kernel_rfl⟩, ?_⟩ | refine ⟨⟨by kernel_rfl, by kernel_rfl, by kernel_rfl, by kernel_rfl, by kernel_rfl, by kernel_rfl, by kernel_rfl, by kernel_rfl, by kernel_rfl, by kernel_rfl, by kernel_rfl, by kernel_rfl, by kernel_rfl⟩, ?_⟩)
      refine hR _ (fin_of0 ?_)
      rw [e]
      simp (maxSteps := 2000000) only [enA, ↓enP, Nat.reduceAdd, Nat.reduceMul, Nat.reduceSub, Nat.reduceLT, Nat.reduceLeDiff, Nat.reduceEqDiff, Nat.reduceBEq, ↓reduceIte, reduceCtorEq, fA]
end Go.Proofs.Ytfnohamcmidgbaa.Ab.T07
