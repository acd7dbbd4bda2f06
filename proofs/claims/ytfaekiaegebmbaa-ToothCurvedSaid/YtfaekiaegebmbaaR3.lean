/- The reference: numbers between two others, spans, and at which heights an edge can be. -/
import Derived.Test.YtfaekiaegebmbaaR2
namespace Go.Proofs.Ytfaekiaegebmbaa.Ab.T01
open Go Go.RowKit
set_option linter.unusedVariables false
set_option linter.unusedSimpArgs false
set_option maxRecDepth 100000
theorem in_spec (n a b : Int) : SpecF Try.prog 67 [.v (.int .i64 n), .v (.int .i64 a), .v (.int .i64 b)] (.v (.bool (betw a b [n]))) [] := by
  refine spec_go (N := 15) (rs := [.tmp 6]) (eq := eqs) rfl rfl fun_67 rfl (by kernel_rfl) (by kernel_rfl) (by simp) (by simp) (by simp) (by simp) fun R hR => ?_
  simp (maxSteps := 2000000) only [vcA, ↓vcP, ↓reduceIte, reduceCtorEq, Nat.reduceAdd, Nat.reduceMul, Nat.reduceSub, Nat.reduceLT, Nat.reduceLeDiff, Nat.reduceEqDiff, Nat.reduceBEq, Nat.reduceBNe, Nat.reduceGT, Nat.reduceDiv, Nat.reduceMod, Int.reduceAdd, Int.reduceSub, Int.reduceNeg, Int.reduceLT, Int.reduceLE, Int.reduceEq, Int.reduceToNat, fA]
  refine ⟨fun h => hR _ (fin_of0 ?_), fun h => hR _ (fin_of0 ?_)⟩
  · simp (maxSteps := 2000000) only [enA, ↓enP, Nat.reduceAdd, Nat.reduceMul, Nat.reduceSub, Nat.reduceLT, Nat.reduceLeDiff, Nat.reduceEqDiff, Nat.reduceBEq, ↓reduceIte, reduceCtorEq, fA]
    simp [betw, h]
  · simp (maxSteps := 2000000) only [enA, ↓enP, Nat.reduceAdd, Nat.reduceMul, Nat.reduceSub, Nat.reduceLT, Nat.reduceLeDiff, Nat.reduceEqDiff, Nat.reduceBEq, ↓reduceIte, reduceCtorEq, fA]
    simp [betw]
    omega
theorem span2_spec (s : Sp) (a b : Int) : SpecF Try.prog 89 [.agg [.v (.int .i64 s.1), .v (.int .i64 s.2)], .v (.int .i64 a), .v (.int .i64 b)] (.v (.bool (isSpan s a b))) [] := by
  refine spec_go (N := 19) (rs := [.tmp 6]) (eq := eqs) rfl rfl fun_89 rfl (by kernel_rfl) (by kernel_rfl) (by simp) (by simp) (by simp) (by simp) fun R hR => ?_
  simp (maxSteps := 2000000) only [vcA, ↓vcP, ↓reduceIte, reduceCtorEq, Nat.reduceAdd, Nat.reduceMul, Nat.reduceSub, Nat.reduceLT, Nat.reduceLeDiff, Nat.reduceEqDiff, Nat.reduceBEq, Nat.reduceBNe, Nat.reduceGT, Nat.reduceDiv, Nat.reduceMod, Int.reduceAdd, Int.reduceSub, Int.reduceNeg, Int.reduceLT, Int.reduceLE, Int.reduceEq, Int.reduceToNat, fA]
  refine onF_data (in_spec s.1 a s.2) ?_ ?_
  · simp (maxSteps := 2000000) only [okA, ↓okP, Nat.reduceAdd, Nat.reduceMul, Nat.reduceSub, Nat.reduceLT, Nat.reduceLeDiff, Nat.reduceEqDiff, Nat.reduceBEq, ↓reduceIte, reduceCtorEq]
  simp (maxSteps := 2000000) only [vcA, ↓vcP, ↓reduceIte, reduceCtorEq, Nat.reduceAdd, Nat.reduceMul, Nat.reduceSub, Nat.reduceLT, Nat.reduceLeDiff, Nat.reduceEqDiff, Nat.reduceBEq, Nat.reduceBNe, Nat.reduceGT, Nat.reduceDiv, Nat.reduceMod, Int.reduceAdd, Int.reduceSub, Int.reduceNeg, Int.reduceLT, Int.reduceLE, Int.reduceEq, Int.reduceToNat, fA]
  refine ⟨fun h => hR _ (fin_of0 ?_), fun h => hR _ (fin_of0 ?_)⟩
  · simp (maxSteps := 2000000) only [enA, ↓enP, Nat.reduceAdd, Nat.reduceMul, Nat.reduceSub, Nat.reduceLT, Nat.reduceLeDiff, Nat.reduceEqDiff, Nat.reduceBEq, ↓reduceIte, reduceCtorEq, fA]
    have := betw1 h
    rw [Bool.eq_iff_iff]
    simp [isSpan, betw]
    omega
  · simp (maxSteps := 2000000) only [enA, ↓enP, Nat.reduceAdd, Nat.reduceMul, Nat.reduceSub, Nat.reduceLT, Nat.reduceLeDiff, Nat.reduceEqDiff, Nat.reduceBEq, ↓reduceIte, reduceCtorEq, fA]
    simp [betw] at h
    simp [isSpan, betw]
    omega
theorem saw2_spec (s : Sw) : SpecF Try.prog 58 [.agg [.v (.int .i64 s.long), .v (.int .i64 s.wide), .v (.int .i64 s.kerf), .v (.int .i64 s.across)]] (.v (.bool (sawOk s))) [] := by
  refine spec_go (N := 21) (rs := [.tmp 2]) (eq := eqs) rfl rfl fun_58 rfl (by kernel_rfl) (by kernel_rfl) (by simp) (by simp) (by simp) (by simp) fun R hR => ?_
  simp (maxSteps := 2000000) only [vcA, ↓vcP, ↓reduceIte, reduceCtorEq, Nat.reduceAdd, Nat.reduceMul, Nat.reduceSub, Nat.reduceLT, Nat.reduceLeDiff, Nat.reduceEqDiff, Nat.reduceBEq, Nat.reduceBNe, Nat.reduceGT, Nat.reduceDiv, Nat.reduceMod, Int.reduceAdd, Int.reduceSub, Int.reduceNeg, Int.reduceLT, Int.reduceLE, Int.reduceEq, Int.reduceToNat, fA]
  refine onF_data (in_spec s.long 1 30) ?_ ?_
  · simp (maxSteps := 2000000) only [okA, ↓okP, Nat.reduceAdd, Nat.reduceMul, Nat.reduceSub, Nat.reduceLT, Nat.reduceLeDiff, Nat.reduceEqDiff, Nat.reduceBEq, ↓reduceIte, reduceCtorEq]
  simp (maxSteps := 2000000) only [vcA, ↓vcP, ↓reduceIte, reduceCtorEq, Nat.reduceAdd, Nat.reduceMul, Nat.reduceSub, Nat.reduceLT, Nat.reduceLeDiff, Nat.reduceEqDiff, Nat.reduceBEq, Nat.reduceBNe, Nat.reduceGT, Nat.reduceDiv, Nat.reduceMod, Int.reduceAdd, Int.reduceSub, Int.reduceNeg, Int.reduceLT, Int.reduceLE, Int.reduceEq, Int.reduceToNat, fA]
  refine ⟨fun h1 => ?_, fun h1 => hR _ (fin_of0 ?_)⟩
  · refine onF_data (in_spec s.wide 1 300) ?_ ?_
    · simp (maxSteps := 2000000) only [okA, ↓okP, Nat.reduceAdd, Nat.reduceMul, Nat.reduceSub, Nat.reduceLT, Nat.reduceLeDiff, Nat.reduceEqDiff, Nat.reduceBEq, ↓reduceIte, reduceCtorEq]
    simp (maxSteps := 2000000) only [vcA, ↓vcP, ↓reduceIte, reduceCtorEq, Nat.reduceAdd, Nat.reduceMul, Nat.reduceSub, Nat.reduceLT, Nat.reduceLeDiff, Nat.reduceEqDiff, Nat.reduceBEq, Nat.reduceBNe, Nat.reduceGT, Nat.reduceDiv, Nat.reduceMod, Int.reduceAdd, Int.reduceSub, Int.reduceNeg, Int.reduceLT, Int.reduceLE, Int.reduceEq, Int.reduceToNat, fA]
    refine ⟨fun h2 => ?_, fun h2 => hR _ (fin_of0 ?_)⟩
    · refine onF_data (in_spec s.kerf 0 50) ?_ ?_
      · simp (maxSteps := 2000000) only [okA, ↓okP, Nat.reduceAdd, Nat.reduceMul, Nat.reduceSub, Nat.reduceLT, Nat.reduceLeDiff, Nat.reduceEqDiff, Nat.reduceBEq, ↓reduceIte, reduceCtorEq]
      simp (maxSteps := 2000000) only [vcA, ↓vcP, ↓reduceIte, reduceCtorEq, Nat.reduceAdd, Nat.reduceMul, Nat.reduceSub, Nat.reduceLT, Nat.reduceLeDiff, Nat.reduceEqDiff, Nat.reduceBEq, Nat.reduceBNe, Nat.reduceGT, Nat.reduceDiv, Nat.reduceMod, Int.reduceAdd, Int.reduceSub, Int.reduceNeg, Int.reduceLT, Int.reduceLE, Int.reduceEq, Int.reduceToNat, fA]
      refine ⟨fun h3 => ?_, fun h3 => hR _ (fin_of0 ?_)⟩
      · refine onF_data (in_spec s.across 0 50) ?_ ?_
        · simp (maxSteps := 2000000) only [okA, ↓okP, Nat.reduceAdd, Nat.reduceMul, Nat.reduceSub, Nat.reduceLT, Nat.reduceLeDiff, Nat.reduceEqDiff, Nat.reduceBEq, ↓reduceIte, reduceCtorEq]
        simp (maxSteps := 2000000) only [vcA, ↓vcP, ↓reduceIte, reduceCtorEq, Nat.reduceAdd, Nat.reduceMul, Nat.reduceSub, Nat.reduceLT, Nat.reduceLeDiff, Nat.reduceEqDiff, Nat.reduceBEq, Nat.reduceBNe, Nat.reduceGT, Nat.reduceDiv, Nat.reduceMod, Int.reduceAdd, Int.reduceSub, Int.reduceNeg, Int.reduceLT, Int.reduceLE, Int.reduceEq, Int.reduceToNat, fA]
        refine hR _ (fin_of0 ?_)
        simp (maxSteps := 2000000) only [enA, ↓enP, Nat.reduceAdd, Nat.reduceMul, Nat.reduceSub, Nat.reduceLT, Nat.reduceLeDiff, Nat.reduceEqDiff, Nat.reduceBEq, ↓reduceIte, reduceCtorEq, fA]
        have := betw1 h3
        unfold sawOk
        rw [h1, h2]
        rw [Bool.eq_iff_iff]
        simp [betw]
        omega
      · simp (maxSteps := 2000000) only [enA, ↓enP, Nat.reduceAdd, Nat.reduceMul, Nat.reduceSub, Nat.reduceLT, Nat.reduceLeDiff, Nat.reduceEqDiff, Nat.reduceBEq, ↓reduceIte, reduceCtorEq, fA]
        simp [betw] at h3
        simp [sawOk, betw]
        omega
    · simp (maxSteps := 2000000) only [enA, ↓enP, Nat.reduceAdd, Nat.reduceMul, Nat.reduceSub, Nat.reduceLT, Nat.reduceLeDiff, Nat.reduceEqDiff, Nat.reduceBEq, ↓reduceIte, reduceCtorEq, fA]
      simp [sawOk, h2]
  · simp (maxSteps := 2000000) only [enA, ↓enP, Nat.reduceAdd, Nat.reduceMul, Nat.reduceSub, Nat.reduceLT, Nat.reduceLeDiff, Nat.reduceEqDiff, Nat.reduceBEq, ↓reduceIte, reduceCtorEq, fA]
    simp [sawOk, h1]
theorem turned_spec (l : List Sp) (hl : l.length < 1000000) : SpecF Try.prog 91 [.sl 2 (l.map spR)] (.sl 2 (l.reverse.map spR)) [] := by
  refine SpecG.frz (r := .ob 0 l.reverse.length) (objs := [.row 44 2 (l.reverse.map spR) false]) ?_
  refine spec_go (N := 21) (rs := [.tmp 2]) (eq := eqs) rfl rfl fun_91 rfl (by kernel_rfl) (by kernel_rfl) (by simp) (by simp) (by simp) (by simp) fun R hR => ?_
  simp (maxSteps := 2000000) only [vcA, ↓vcP, ↓reduceIte, reduceCtorEq, Nat.reduceAdd, Nat.reduceMul, Nat.reduceSub, Nat.reduceLT, Nat.reduceLeDiff, Nat.reduceEqDiff, Nat.reduceBEq, Nat.reduceBNe, Nat.reduceGT, Nat.reduceDiv, Nat.reduceMod, Int.reduceAdd, Int.reduceSub, Int.reduceNeg, Int.reduceLT, Int.reduceLE, Int.reduceEq, Int.reduceToNat, fA]
  refine goC_loop (α := {i : Nat // i ≤ l.length}) (fun x => ⟨[(0, .sl 2 (l.map spR)), (3, .ob 64 x.1), (4, .v (.int .i64 ((l.length : Int) - 1 - x.1)))], [(64, .row 44 2 ((l.reverse.take x.1).map spR) false)]⟩) (fun x => l.length - x.1) ⟨0, by omega⟩ [some 16] ?_ ?_
  · simp (maxSteps := 2000000) only [enA, ↓enP, Nat.reduceAdd, Nat.reduceMul, Nat.reduceSub, Nat.reduceLT, Nat.reduceLeDiff, Nat.reduceEqDiff, Nat.reduceBEq, ↓reduceIte, reduceCtorEq, fA]
    rw [wrap_id (by omega) (by omega)]
    omega
  intro x B hB
  obtain ⟨i, hi⟩ := x
  have htl : (l.reverse.take i).length = i := by simp; omega
  have e1 : ((l.length : Int) - 1 - i).toNat = l.length - 1 - i := by omega
  by_cases hc : i < l.length
  · have qc : ((l.length : Int) - 1 - i ≥ 0) = True := eq_true (by omega)
    have q1 : ((0 : Int) ≤ (l.length : Int) - 1 - i) = True := eq_true (by omega)
    have q2 : ((l.length : Int) - 1 - i < l.length) = True := eq_true (by omega)
    have q3 : (l.length - 1 - i < l.length) = True := eq_true (by omega)
    have hn : nth l (l.length - 1 - i) = nth l.reverse i := by
      unfold nth
      rw [List.getD_eq_getElem?_getD, List.getD_eq_getElem?_getD, List.getElem?_reverse hc]
    simp (maxSteps := 2000000) only [vcA, ↓vcP, ↓reduceIte, reduceCtorEq, Nat.reduceAdd, Nat.reduceMul, Nat.reduceSub, Nat.reduceLT, Nat.reduceLeDiff, Nat.reduceEqDiff, Nat.reduceBEq, Nat.reduceBNe, Nat.reduceGT, Nat.reduceDiv, Nat.reduceMod, Int.reduceAdd, Int.reduceSub, Int.reduceNeg, Int.reduceLT, Int.reduceLE, Int.reduceEq, Int.reduceToNat, fA, qc, q1, q2, q3, e1, spR, htl]
    refine ⟨⟨by omega, by simp only [maxLen]; omega⟩, fun _ => hB _ ⟨i + 1, by omega⟩ [some 160] (by simp only; omega) rfl ?_⟩
    simp (maxSteps := 2000000) only [enA, ↓enP, Nat.reduceAdd, Nat.reduceMul, Nat.reduceSub, Nat.reduceLT, Nat.reduceLeDiff, Nat.reduceEqDiff, Nat.reduceBEq, ↓reduceIte, reduceCtorEq, fA]
    rw [wrap_id (by omega) (by omega), take_nth (l := l.reverse) (by simp; omega), List.map_append, hn]
    refine ⟨by omega, rfl⟩
  · have qc : ((l.length : Int) - 1 - i ≥ 0) = False := eq_false (by omega)
    have : i = l.length := by omega
    subst this
    simp (maxSteps := 2000000) only [vcA, ↓vcP, ↓reduceIte, reduceCtorEq, Nat.reduceAdd, Nat.reduceMul, Nat.reduceSub, Nat.reduceLT, Nat.reduceLeDiff, Nat.reduceEqDiff, Nat.reduceBEq, Nat.reduceBNe, Nat.reduceGT, Nat.reduceDiv, Nat.reduceMod, Int.reduceAdd, Int.reduceSub, Int.reduceNeg, Int.reduceLT, Int.reduceLE, Int.reduceEq, Int.reduceToNat, fA, qc]
    refine hR _ (fin_of1 [some 64] ?_)
    simp (maxSteps := 2000000) only [enA, ↓enP, Nat.reduceAdd, Nat.reduceMul, Nat.reduceSub, Nat.reduceLT, Nat.reduceLeDiff, Nat.reduceEqDiff, Nat.reduceBEq, ↓reduceIte, reduceCtorEq, fA]
    rw [List.take_of_length_le (by simp)]
    simp
/-- Can an edge be at this height, by the columns before it alone? -/
def reachB (l : List Sp) (bend : Int) : Nat → Int → Bool
  | 0, h => decide ((nth l 0).1 ≤ h) && decide (h ≤ (nth l 0).2)
  | i + 1, h => decide ((nth l (i + 1)).1 ≤ h) && decide (h ≤ (nth l (i + 1)).2) && (List.range 301).any fun k : Nat => decide (h - bend ≤ (k : Int)) && decide ((k : Int) ≤ h + bend) && reachB l bend i k
def bR (b : Bool) : List DV := [.v (.bool b)]
def rowB (f : Int → Bool) : List Bool := (List.range 301).map fun h : Nat => f h
theorem rowB_length (f : Int → Bool) : (rowB f).length = 301 := by simp [rowB]
theorem rowB_nth {f : Int → Bool} {h : Nat} (hh : h < 301) : nth (rowB f) h = f h := nth_range hh
theorem rowB_set {f : Int → Bool} {h : Nat} {b : Bool} (hh : h < 301) : (rowB f).set h b = rowB fun x => if x = (h : Int) then b else f x := by
  refine list_ext (by simp [rowB]) fun k hk => ?_
  have hk' : k < 301 := by simpa [rowB] using hk
  rw [nth_set _ _ _ _ (by rw [rowB_length]; exact hk'), rowB_nth hk', rowB_nth hk']
  by_cases e : h = k
  · subst e; rw [if_pos rfl, if_pos rfl]
  · rw [if_neg e, if_neg (by omega)]
theorem rowB_congr {f g : Int → Bool} (h : ∀ x : Nat, x < 301 → f x = g x) : rowB f = rowB g := by
  refine list_ext (by simp [rowB]) fun k hk => ?_
  have hk' : k < 301 := by simpa [rowB] using hk
  rw [rowB_nth hk', rowB_nth hk', h k hk']
/-- A row of marks. -/
def rowR (f : Int → Bool) : List DV := [.sl 1 ((rowB f).map bR)]
def reachR (l : List Sp) (bend : Int) (i : Nat) : List DV := rowR (reachB l bend i)
/-- What is known of a height when all heights from k on beside the column before are still to be looked at. -/
def partB (g : Int → Bool) (lo : Int) (k : Int) : Bool := (List.range 301).any fun j : Nat => decide (lo ≤ (j : Int)) && decide ((j : Int) < k) && g j
theorem partB_start (g : Int → Bool) (lo : Int) {k : Int} (h : k ≤ lo ∨ k ≤ 0) : partB g lo k = false := by
  unfold partB
  rw [List.any_eq_false]
  intro j _
  simp
  omega
theorem partB_step (g : Int → Bool) (lo : Int) {k : Nat} (hk : k < 301) (h : lo ≤ k) : partB g lo ((k : Int) + 1) = (partB g lo k || g k) := by
  rw [Bool.eq_iff_iff]
  unfold partB
  simp only [Bool.or_eq_true, List.any_eq_true, Bool.and_eq_true, decide_eq_true_eq, List.mem_range]
  constructor
  · rintro ⟨j, h1, ⟨h2, h3⟩, h4⟩
    by_cases e : j = k
    · subst e; exact .inr h4
    · exact .inl ⟨j, h1, ⟨h2, by omega⟩, h4⟩
  · rintro (⟨j, h1, ⟨h2, h3⟩, h4⟩ | h4)
    · exact ⟨j, h1, ⟨h2, by omega⟩, h4⟩
    · exact ⟨k, hk, ⟨h, by omega⟩, h4⟩
theorem reachB_part {l : List Sp} {bend : Int} {i : Nat} {h k : Int} (h1 : (nth l (i + 1)).1 ≤ h) (h2 : h ≤ (nth l (i + 1)).2) (hk : k = min 300 (h + bend) + 1) : reachB l bend (i + 1) h = partB (reachB l bend i) (max 0 (h - bend)) k := by
  rw [reachB, decide_eq_true h1, decide_eq_true h2]
  rw [Bool.eq_iff_iff]
  unfold partB
  simp only [Bool.true_and, Bool.and_self, List.any_eq_true, Bool.and_eq_true, decide_eq_true_eq, List.mem_range]
  constructor
  · rintro ⟨j, h1, ⟨h2, h3⟩, h4⟩
    exact ⟨j, h1, ⟨by omega, by omega⟩, h4⟩
  · rintro ⟨j, h1, ⟨h2, h3⟩, h4⟩
    exact ⟨j, h1, ⟨by omega, by omega⟩, h4⟩
theorem reachB_out {l : List Sp} {bend : Int} {i : Nat} {h : Int} (h1 : h < (nth l i).1 ∨ (nth l i).2 < h) : reachB l bend i h = false := by
  cases i with
  | zero =>
    rw [reachB]
    rcases h1 with h1 | h1
    · rw [decide_eq_false (show ¬ (nth l 0).1 ≤ h by omega)]; rfl
    · rw [decide_eq_false (show ¬ h ≤ (nth l 0).2 by omega)]; simp
  | succ i =>
    rw [reachB]
    rcases h1 with h1 | h1
    · rw [decide_eq_false (show ¬ (nth l (i + 1)).1 ≤ h by omega)]; rfl
    · rw [decide_eq_false (show ¬ h ≤ (nth l (i + 1)).2 by omega)]; simp
end Go.Proofs.Ytfaekiaegebmbaa.Ab.T01
