/- The reference: the first place of a layout that is wrong. -/
import Derived.Test.YtfaekiaegebmbaaF2
namespace Go.Proofs.Ytfaekiaegebmbaa.Ab.T01
open Go Go.RowKit
set_option linter.unusedSimpArgs false
set_option linter.unusedVariables false
set_option maxRecDepth 100000
theorem apart2_spec (s : Sw) (a b : Int × Int) (ha : Near a) (hb : Near b) (hs : sawOk s = true) : SpecF Try.prog 74 [.agg [.v (.int .i64 s.long), .v (.int .i64 s.wide), .v (.int .i64 s.kerf), .v (.int .i64 s.across)], .agg [.v (.int .i64 a.1), .v (.int .i64 a.2)], .agg [.v (.int .i64 b.1), .v (.int .i64 b.2)]] (.v (.bool (apartI s a b))) [] := by
  unfold sawOk at hs
  simp only [Bool.and_eq_true] at hs
  have s1 := betw1 hs.1.1
  have s2 := betw1 hs.1.2
  have s3 := betw2 hs.2
  have na := ha
  have nb := hb
  unfold Near at na nb
  have e1 : IntKind.i64.wrap (s.wide + s.kerf) = s.wide + s.kerf := wrap_id (by omega) (by omega)
  have e2 : IntKind.i64.wrap (s.long + s.across) = s.long + s.across := wrap_id (by omega) (by omega)
  have e3 : IntKind.i64.wrap (a.1 - b.1) = a.1 - b.1 := wrap_id (by omega) (by omega)
  have e4 : IntKind.i64.wrap (b.1 - a.1) = b.1 - a.1 := wrap_id (by omega) (by omega)
  have e5 : IntKind.i64.wrap (a.2 - b.2) = a.2 - b.2 := wrap_id (by omega) (by omega)
  have e6 : IntKind.i64.wrap (b.2 - a.2) = b.2 - a.2 := wrap_id (by omega) (by omega)
  refine spec_go (N := 46) (rs := [.tmp 6]) (eq := eqs) rfl rfl fun_74 rfl (by kernel_rfl) (by kernel_rfl) (by simp) (by simp) (by simp) (by simp) fun R hR => ?_
  simp (maxSteps := 2000000) only [vcA, ↓vcP, ↓reduceIte, reduceCtorEq, Nat.reduceAdd, Nat.reduceMul, Nat.reduceSub, Nat.reduceLT, Nat.reduceLeDiff, Nat.reduceEqDiff, Nat.reduceBEq, Nat.reduceBNe, Nat.reduceGT, Nat.reduceDiv, Nat.reduceMod, Int.reduceAdd, Int.reduceSub, Int.reduceNeg, Int.reduceLT, Int.reduceLE, Int.reduceEq, Int.reduceToNat, fA, e1, e2, e3, e4, e5, e6]
  refine ⟨fun h => hR _ (fin_of0 ?_), fun h => hR _ (fin_of0 ?_)⟩
  · have h2 : a.1 = b.1 := by simp at h; omega
    simp (maxSteps := 2000000) only [enA, ↓enP, Nat.reduceAdd, Nat.reduceMul, Nat.reduceSub, Nat.reduceLT, Nat.reduceLeDiff, Nat.reduceEqDiff, Nat.reduceBEq, ↓reduceIte, reduceCtorEq, fA]
    unfold apartI
    rw [if_pos h2]
  · have h2 : ¬ a.1 = b.1 := by simp at h; omega
    simp (maxSteps := 2000000) only [enA, ↓enP, Nat.reduceAdd, Nat.reduceMul, Nat.reduceSub, Nat.reduceLT, Nat.reduceLeDiff, Nat.reduceEqDiff, Nat.reduceBEq, ↓reduceIte, reduceCtorEq, fA]
    unfold apartI
    rw [if_neg h2]
def faultN (v : Vw) (s : Sw) (l : List (Int × Int)) : Int := match faultO v s l with
  | some i => i
  | none => -1
theorem fault2_spec (v : Vw) (s : Sw) (l : List (Int × Int)) (hv : v.Ok) (hs : sawOk s = true) (hl : l.length ≤ 400) (hon : ∀ i, i < l.length → OnBlade v s (nth l i) ∧ Near (nth l i)) : SpecF Try.prog 35 [.agg [.sl 1 (v.bottom.map iR), .sl 1 (v.top.map iR), .sl 6 (v.spoils.map refR)], .agg [.v (.int .i64 s.long), .v (.int .i64 s.wide), .v (.int .i64 s.kerf), .v (.int .i64 s.across)], .sl 2 (l.map plcR)] (.v (.int .i64 (faultN v s l))) [] := by
  have hs0 := hs
  unfold sawOk at hs0
  simp only [Bool.and_eq_true] at hs0
  have s1 := betw1 hs0.1.1
  have s2 := betw1 hs0.1.2
  have hle := hv.le
  have hsl := hv.sle
  refine spec_go (N := 41) (rs := [.tmp 6]) (eq := eqs) rfl rfl fun_35 rfl (by kernel_rfl) (by kernel_rfl) (by simp) (by simp) (by simp) (by simp) fun R hR => ?_
  simp (maxSteps := 2000000) only [vcA, ↓vcP, ↓reduceIte, reduceCtorEq, Nat.reduceAdd, Nat.reduceMul, Nat.reduceSub, Nat.reduceLT, Nat.reduceLeDiff, Nat.reduceEqDiff, Nat.reduceBEq, Nat.reduceBNe, Nat.reduceGT, Nat.reduceDiv, Nat.reduceMod, Int.reduceAdd, Int.reduceSub, Int.reduceNeg, Int.reduceLT, Int.reduceLE, Int.reduceEq, Int.reduceToNat, fA]
  refine goC_loop (α := {i : Nat // i ≤ l.length ∧ ∀ j, j < i → badAt v s l j = false}) (fun x => ⟨[(2, .sl 2 (l.map plcR)), (3, .ptr 8 0), (4, .ptr 16 0), (7, .v (.int .i64 x.1))], [(8, .box 60 [.sl 1 (v.bottom.map iR), .sl 1 (v.top.map iR), .sl 6 (v.spoils.map refR)]), (16, .box 32 [.v (.int .i64 s.long), .v (.int .i64 s.wide), .v (.int .i64 s.kerf), .v (.int .i64 s.across)])]⟩) (fun x => l.length - x.1) ⟨0, by omega, by omega⟩ [] ?_ ?_
  · simp (maxSteps := 2000000) only [enA, ↓enP, Nat.reduceAdd, Nat.reduceMul, Nat.reduceSub, Nat.reduceLT, Nat.reduceLeDiff, Nat.reduceEqDiff, Nat.reduceBEq, ↓reduceIte, reduceCtorEq, fA]
    rfl
  intro x B hB
  obtain ⟨i, hi, hx⟩ := x
  by_cases hc : i < l.length
  · have qc : (i < l.length) = True := eq_true hc
    have e3 : IntKind.i64.wrap ((i : Int) + 1) = ((i + 1 : Nat) : Int) := wrap_id (by omega) (by omega)
    obtain ⟨on, nr⟩ := hon i hc
    obtain ⟨x0, x1, y0, y1⟩ := on
    have hbad : badAt v s l i = (!soundI v s (nth l i) || (l.take i).any fun q => !apartI s (nth l i) q) := rfl
    have found : badAt v s l i = true → faultN v s l = i := fun h => by unfold faultN faultO; rw [range_find hc h hx]
    have hsn := sound2_spec v s (nth l i).1.toNat (nth l i).2 (by omega) (by omega) (by omega) hv.len (by omega) (by omega) (by omega)
    rw [show (((nth l i).1.toNat : Nat) : Int) = (nth l i).1 by omega, show refSound v s.long.toNat s.wide (nth l i).1.toNat (nth l i).2 = soundI v s (nth l i) from rfl] at hsn
    simp (maxSteps := 2000000) only [vcA, ↓vcP, ↓reduceIte, reduceCtorEq, Nat.reduceAdd, Nat.reduceMul, Nat.reduceSub, Nat.reduceLT, Nat.reduceLeDiff, Nat.reduceEqDiff, Nat.reduceBEq, Nat.reduceBNe, Nat.reduceGT, Nat.reduceDiv, Nat.reduceMod, Int.reduceAdd, Int.reduceSub, Int.reduceNeg, Int.reduceLT, Int.reduceLE, Int.reduceEq, Int.reduceToNat, fA, qc, e3, plcR]
    refine onF_data hsn ?_ ?_
    · simp (maxSteps := 2000000) only [okA, ↓okP, Nat.reduceAdd, Nat.reduceMul, Nat.reduceSub, Nat.reduceLT, Nat.reduceLeDiff, Nat.reduceEqDiff, Nat.reduceBEq, ↓reduceIte, reduceCtorEq]
    simp (maxSteps := 2000000) only [vcA, ↓vcP, ↓reduceIte, reduceCtorEq, Nat.reduceAdd, Nat.reduceMul, Nat.reduceSub, Nat.reduceLT, Nat.reduceLeDiff, Nat.reduceEqDiff, Nat.reduceBEq, Nat.reduceBNe, Nat.reduceGT, Nat.reduceDiv, Nat.reduceMod, Int.reduceAdd, Int.reduceSub, Int.reduceNeg, Int.reduceLT, Int.reduceLE, Int.reduceEq, Int.reduceToNat, fA, qc, e3]
    refine ⟨fun g1 => hR _ (fin_of0 ?_), fun g1 => ?_⟩
    · rw [found (by rw [hbad, g1]; rfl)]
      simp (maxSteps := 2000000) only [enA, ↓enP, Nat.reduceAdd, Nat.reduceMul, Nat.reduceSub, Nat.reduceLT, Nat.reduceLeDiff, Nat.reduceEqDiff, Nat.reduceBEq, ↓reduceIte, reduceCtorEq, fA]
    refine goC_loop (α := {k : Nat // k ≤ i ∧ ∀ j, j < k → apartI s (nth l i) (nth l j) = true}) (fun x => ⟨[(2, .sl 2 (l.map plcR)), (3, .ptr 8 0), (4, .ptr 16 0), (7, .v (.int .i64 i)), (8, .v (.int .i64 x.1))], [(8, .box 60 [.sl 1 (v.bottom.map iR), .sl 1 (v.top.map iR), .sl 6 (v.spoils.map refR)]), (16, .box 32 [.v (.int .i64 s.long), .v (.int .i64 s.wide), .v (.int .i64 s.kerf), .v (.int .i64 s.across)])]⟩) (fun x => i - x.1) ⟨0, by omega, by omega⟩ [] ?_ ?_
    · simp (maxSteps := 2000000) only [enA, ↓enP, Nat.reduceAdd, Nat.reduceMul, Nat.reduceSub, Nat.reduceLT, Nat.reduceLeDiff, Nat.reduceEqDiff, Nat.reduceBEq, ↓reduceIte, reduceCtorEq, fA]
      rfl
    intro x B2 hB2
    obtain ⟨k, hk, hy⟩ := x
    by_cases hc2 : k < i
    · have q2 : (k < i) = True := eq_true hc2
      have q3 : (k < l.length) = True := eq_true (by omega)
      have e4 : IntKind.i64.wrap ((k : Int) + 1) = ((k + 1 : Nat) : Int) := wrap_id (by omega) (by omega)
      simp (maxSteps := 2000000) only [vcA, ↓vcP, ↓reduceIte, reduceCtorEq, Nat.reduceAdd, Nat.reduceMul, Nat.reduceSub, Nat.reduceLT, Nat.reduceLeDiff, Nat.reduceEqDiff, Nat.reduceBEq, Nat.reduceBNe, Nat.reduceGT, Nat.reduceDiv, Nat.reduceMod, Int.reduceAdd, Int.reduceSub, Int.reduceNeg, Int.reduceLT, Int.reduceLE, Int.reduceEq, Int.reduceToNat, fA, qc, q2, q3, e4, plcR]
      refine onF_data (apart2_spec s (nth l i) (nth l k) nr (hon k (by omega)).2 hs) ?_ ?_
      · simp (maxSteps := 2000000) only [okA, ↓okP, Nat.reduceAdd, Nat.reduceMul, Nat.reduceSub, Nat.reduceLT, Nat.reduceLeDiff, Nat.reduceEqDiff, Nat.reduceBEq, ↓reduceIte, reduceCtorEq]
      simp (maxSteps := 2000000) only [vcA, ↓vcP, ↓reduceIte, reduceCtorEq, Nat.reduceAdd, Nat.reduceMul, Nat.reduceSub, Nat.reduceLT, Nat.reduceLeDiff, Nat.reduceEqDiff, Nat.reduceBEq, Nat.reduceBNe, Nat.reduceGT, Nat.reduceDiv, Nat.reduceMod, Int.reduceAdd, Int.reduceSub, Int.reduceNeg, Int.reduceLT, Int.reduceLE, Int.reduceEq, Int.reduceToNat, fA, qc, q2, q3, e4]
      repeat (first | refine ⟨by kernel_rfl, ?_⟩ | refine ⟨⟨by kernel_rfl, by kernel_rfl⟩, ?_⟩ | refine ⟨⟨by kernel_rfl, by kernel_rfl, by kernel_rfl⟩, ?_⟩ | refine ⟨⟨by kernel_rfl, by kernel_rfl, by kernel_rfl, by kernel_rfl⟩, ?_⟩ | refine ⟨⟨by kernel_rfl, by kernel_rfl, by kernel_rfl, by kernel_rfl, by kernel_rfl⟩, ?_⟩ | refine ⟨⟨by kernel_rfl, by kernel_rfl, by kernel_rfl, by kernel_rfl, by kernel_rfl, by kernel_rfl⟩, ?_⟩ | refine ⟨⟨by kernel_rfl, by kernel_rfl, by kernel_rfl, by kernel_rfl, by kernel_rfl, by kernel_rfl, by kernel_rfl⟩, ?_⟩ | refine ⟨⟨by kernel_rfl, by kernel_rfl, by kernel_rfl, by kernel_rfl, by kernel_rfl, by kernel_rfl, by kernel_rfl, by kernel_rfl⟩, ?_⟩ | refine ⟨⟨by kernel_rfl, by kernel_rfl, by kernel_rfl, by kernel_rfl, by kernel_rfl, by kernel_rfl, by kernel_rfl, by kernel_rfl, by kernel_rfl⟩, ?_⟩ | refine ⟨⟨by kernel_rfl, by kernel_rfl, by kernel_rfl, by kernel_rfl, by kernel_rfl, by kernel_rfl, by kernel_rfl, by kernel_rfl, by kernel_rfl, by kernel_rfl⟩, ?_⟩ | refine ⟨⟨by kernel_rfl, by kernel_rfl, by kernel_rfl, by kernel_rfl, by kernel_rfl, by kernel_rfl, by kernel_rfl, by kernel_rfl, by kernel_rfl, by kernel_rfl, by kernel_rfl⟩, ?_⟩ | refine ⟨⟨by kernel_rfl, by kernel_rfl, by kernel_rfl, by kernel_rfl, by kernel_rfl, by kernel_rfl, by kernel_rfl, by kernel_rfl, by kernel_rfl, by kernel_rfl, by kernel_rfl, by kernel_rfl⟩, ?_⟩ | refine ⟨⟨by kernel_rfl, by kernel_rfl, by kernel_rfl, by kernel_rfl, by kernel_rfl, by kernel_rfl, by kernel_rfl, by kernel_rfl, by kernel_rfl, by kernel_rfl, by kernel_rfl, by kernel_rfl, by kernel_rfl⟩, ?_⟩)
      refine ⟨fun g2 => hR _ (fin_of0 ?_), fun g2 => hB2 _ ⟨k + 1, by omega, fun j hj => ?_⟩ [] (by simp only; omega) rfl ?_⟩
      · rw [found (by
          have : ((l.take i).any fun q => !apartI s (nth l i) q) = true := List.any_eq_true.2 ⟨nth l k, by
            have e : nth (l.take i) k = nth l k := by
              unfold nth
              rw [List.getD_eq_getElem?_getD, List.getD_eq_getElem?_getD, List.getElem?_take, if_pos hc2]
            rw [← e]
            exact nth_mem (by simp; omega), g2⟩
          rw [hbad, this, Bool.or_true])]
        simp (maxSteps := 2000000) only [enA, ↓enP, Nat.reduceAdd, Nat.reduceMul, Nat.reduceSub, Nat.reduceLT, Nat.reduceLeDiff, Nat.reduceEqDiff, Nat.reduceBEq, ↓reduceIte, reduceCtorEq, fA]
      · by_cases e : j = k
        · subst e; simpa using g2
        · exact hy j (by omega)
      · simp (maxSteps := 2000000) only [enA, ↓enP, Nat.reduceAdd, Nat.reduceMul, Nat.reduceSub, Nat.reduceLT, Nat.reduceLeDiff, Nat.reduceEqDiff, Nat.reduceBEq, ↓reduceIte, reduceCtorEq, fA]
    have q2 : (k < i) = False := eq_false hc2
    simp (maxSteps := 2000000) only [vcA, ↓vcP, ↓reduceIte, reduceCtorEq, Nat.reduceAdd, Nat.reduceMul, Nat.reduceSub, Nat.reduceLT, Nat.reduceLeDiff, Nat.reduceEqDiff, Nat.reduceBEq, Nat.reduceBNe, Nat.reduceGT, Nat.reduceDiv, Nat.reduceMod, Int.reduceAdd, Int.reduceSub, Int.reduceNeg, Int.reduceLT, Int.reduceLE, Int.reduceEq, Int.reduceToNat, fA, q2, e3]
    refine hB _ ⟨i + 1, by omega, fun j hj => ?_⟩ [] (by simp only; omega) rfl ?_
    · by_cases e : j = i
      · rw [e, hbad, g1, Bool.false_or, List.any_eq_false]
        intro q hq
        obtain ⟨d, hd, rfl⟩ := List.mem_iff_getElem.1 hq
        have hd2 : d < i := by simp at hd; omega
        have e2 : (l.take i)[d] = nth l d := by
          rw [List.getElem_take]
          have := nth_eq (l := l) (i := d) (by omega)
          rw [List.getElem?_eq_getElem (by omega)] at this
          exact Option.some.inj this
        rw [e2, hy d (by omega)]
        simp
      · exact hx j (by omega)
    · simp (maxSteps := 2000000) only [enA, ↓enP, Nat.reduceAdd, Nat.reduceMul, Nat.reduceSub, Nat.reduceLT, Nat.reduceLeDiff, Nat.reduceEqDiff, Nat.reduceBEq, ↓reduceIte, reduceCtorEq, fA]
  have qc : (i < l.length) = False := eq_false hc
  have none : faultN v s l = -1 := by unfold faultN faultO; rw [range_none fun j hj => hx j (by omega)]
  simp (maxSteps := 2000000) only [vcA, ↓vcP, ↓reduceIte, reduceCtorEq, Nat.reduceAdd, Nat.reduceMul, Nat.reduceSub, Nat.reduceLT, Nat.reduceLeDiff, Nat.reduceEqDiff, Nat.reduceBEq, Nat.reduceBNe, Nat.reduceGT, Nat.reduceDiv, Nat.reduceMod, Int.reduceAdd, Int.reduceSub, Int.reduceNeg, Int.reduceLT, Int.reduceLE, Int.reduceEq, Int.reduceToNat, fA, qc]
  refine hR _ (fin_of0 ?_)
  rw [none]
  simp (maxSteps := 2000000) only [enA, ↓enP, Nat.reduceAdd, Nat.reduceMul, Nat.reduceSub, Nat.reduceLT, Nat.reduceLeDiff, Nat.reduceEqDiff, Nat.reduceBEq, ↓reduceIte, reduceCtorEq, fA]
end Go.Proofs.Ytfaekiaegebmbaa.Ab.T01
