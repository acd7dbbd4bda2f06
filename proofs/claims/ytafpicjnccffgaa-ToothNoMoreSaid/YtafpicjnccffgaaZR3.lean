/- The reference: numbers between two others, spans, and at which heights an edge can be. The reference: at which heights an edge can be. The reference: what an edge can be in all truths. What an edge can be by the reference is what the program says: plain. -/
import Derived.Test.YtafpicjnccffgaaZR1
namespace Go.Proofs.Ytafpicjnccffgaa.Ab.T01
open Go Go.RowKit
set_option linter.unusedVariables false
set_option linter.unusedSimpArgs false
set_option maxRecDepth 100000
theorem in_spec (n a b : Int) : SpecF Try.prog 51 [.v (.int .i64 n), .v (.int .i64 a), .v (.int .i64 b)] (.v (.bool (betw a b [n]))) [] := by
  refine spec_go (N := 15) (rs := [.tmp 6]) (eq := eqs) rfl rfl fun_51 rfl (by kernel_rfl) (by kernel_rfl) (by simp) (by simp) (by simp) (by simp) fun R hR => ?_
  simp (maxSteps := 2000000) only [vcA, ↓vcP, ↓reduceIte, reduceCtorEq, Nat.reduceAdd, Nat.reduceMul, Nat.reduceSub, Nat.reduceLT, Nat.reduceLeDiff, Nat.reduceEqDiff, Nat.reduceBEq, Nat.reduceBNe, Nat.reduceGT, Nat.reduceDiv, Nat.reduceMod, Int.reduceAdd, Int.reduceSub, Int.reduceNeg, Int.reduceLT, Int.reduceLE, Int.reduceEq, Int.reduceToNat, fA]
  refine ⟨fun h => hR _ (fin_of0 ?_), fun h => hR _ (fin_of0 ?_)⟩
  · simp (maxSteps := 2000000) only [enA, ↓enP, Nat.reduceAdd, Nat.reduceMul, Nat.reduceSub, Nat.reduceLT, Nat.reduceLeDiff, Nat.reduceEqDiff, Nat.reduceBEq, ↓reduceIte, reduceCtorEq, fA]
    simp [betw, h]
  · simp (maxSteps := 2000000) only [enA, ↓enP, Nat.reduceAdd, Nat.reduceMul, Nat.reduceSub, Nat.reduceLT, Nat.reduceLeDiff, Nat.reduceEqDiff, Nat.reduceBEq, ↓reduceIte, reduceCtorEq, fA]
    simp [betw]
    omega
theorem span2_spec (s : Sp) (a b : Int) : SpecF Try.prog 69 [.agg [.v (.int .i64 s.1), .v (.int .i64 s.2)], .v (.int .i64 a), .v (.int .i64 b)] (.v (.bool (isSpan s a b))) [] := by
  refine spec_go (N := 19) (rs := [.tmp 6]) (eq := eqs) rfl rfl fun_69 rfl (by kernel_rfl) (by kernel_rfl) (by simp) (by simp) (by simp) (by simp) fun R hR => ?_
  simp (maxSteps := 2000000) only [vcA, ↓vcP, ↓reduceIte, reduceCtorEq, Nat.reduceAdd, Nat.reduceMul, Nat.reduceSub, Nat.reduceLT, Nat.reduceLeDiff, Nat.reduceEqDiff, Nat.reduceBEq, Nat.reduceBNe, Nat.reduceGT, Nat.reduceDiv, Nat.reduceMod, Int.reduceAdd, Int.reduceSub, Int.reduceNeg, Int.reduceLT, Int.reduceLE, Int.reduceEq, Int.reduceToNat, fA]
  refine onF_data (in_spec s.1 a s.2) ?_ ?_
  · simp (maxSteps := 2000000) only [okA, ↓okP, Nat.reduceAdd, Nat.reduceMul, Nat.reduceSub, Nat.reduceLT, Nat.reduceLeDiff, Nat.reduceEqDiff, Nat.reduceBEq, ↓reduceIte, reduceCtorEq]
  simp (maxSteps := 2000000) only [vcA, ↓vcP, ↓reduceIte, reduceCtorEq, Nat.reduceAdd, Nat.reduceMul, Nat.reduceSub, Nat.reduceLT, Nat.reduceLeDiff, Nat.reduceEqDiff, Nat.reduceBEq, Nat.reduceBNe, Nat.reduceGT, Nat.reduceDiv, Nat.reduceMod, Int.reduceAdd, Int.reduceSub, Int.reduceNeg, Int.reduceLT, Int.reduceLE, Int.reduceEq, Int.reduceToNat, fA]
  refine ⟨fun h => hR _ (fin_of0 ?_), fun h => hR _ (fin_of0 ?_)⟩
  · simp (maxSteps := 2000000) only [enA, ↓enP, Nat.reduceAdd, Nat.reduceMul, Nat.reduceSub, Nat.reduceLT, Nat.reduceLeDiff, Nat.reduceEqDiff, Nat.reduceBEq, ↓reduceIte, reduceCtorEq, fA]
    have := betw1 h
    rw [Bool.eq_iff_iff]
    simp [isSpan, betw]
    omega
  · simp (maxSteps := 2000000) only [enA, ↓enP, Nat.reduceAdd, Nat.reduceMul, Nat.reduceSub, Nat.reduceLT, Nat.reduceLeDiff, Nat.reduceEqDiff, Nat.reduceBEq, ↓reduceIte, reduceCtorEq, fA]
    simp [betw] at h
    simp [isSpan, betw]
    omega
theorem saw2_spec (s : Sw) : SpecF Try.prog 44 [.agg [.v (.int .i64 s.long), .v (.int .i64 s.wide), .v (.int .i64 s.kerf), .v (.int .i64 s.across)]] (.v (.bool (sawOk s))) [] := by
  refine spec_go (N := 21) (rs := [.tmp 2]) (eq := eqs) rfl rfl fun_44 rfl (by kernel_rfl) (by kernel_rfl) (by simp) (by simp) (by simp) (by simp) fun R hR => ?_
  simp (maxSteps := 2000000) only [vcA, ↓vcP, ↓reduceIte, reduceCtorEq, Nat.reduceAdd, Nat.reduceMul, Nat.reduceSub, Nat.reduceLT, Nat.reduceLeDiff, Nat.reduceEqDiff, Nat.reduceBEq, Nat.reduceBNe, Nat.reduceGT, Nat.reduceDiv, Nat.reduceMod, Int.reduceAdd, Int.reduceSub, Int.reduceNeg, Int.reduceLT, Int.reduceLE, Int.reduceEq, Int.reduceToNat, fA]
  refine onF_data (in_spec s.long 1 30) ?_ ?_
  · simp (maxSteps := 2000000) only [okA, ↓okP, Nat.reduceAdd, Nat.reduceMul, Nat.reduceSub, Nat.reduceLT, Nat.reduceLeDiff, Nat.reduceEqDiff, Nat.reduceBEq, ↓reduceIte, reduceCtorEq]
  simp (maxSteps := 2000000) only [vcA, ↓vcP, ↓reduceIte, reduceCtorEq, Nat.reduceAdd, Nat.reduceMul, Nat.reduceSub, Nat.reduceLT, Nat.reduceLeDiff, Nat.reduceEqDiff, Nat.reduceBEq, Nat.reduceBNe, Nat.reduceGT, Nat.reduceDiv, Nat.reduceMod, Int.reduceAdd, Int.reduceSub, Int.reduceNeg, Int.reduceLT, Int.reduceLE, Int.reduceEq, Int.reduceToNat, fA]
  refine ⟨fun h1 => ?_, fun h1 => hR _ (fin_of0 ?_)⟩
  · refine onF_data (in_spec s.wide 1 300) ?_ ?_
    · simp (maxSteps := 2000000) only [okA, ↓okP, Nat.reduceAdd, Nat.reduceMul, Nat.reduceSub, Nat.reduceLT, Nat.reduceLeDiff, Nat.reduceEqDiff, Nat.reduceBEq, ↓reduceIte, reduceCtorEq]
    simp (maxSteps := 2000000) only [vcA, ↓vcP, ↓reduceIte, reduceCtorEq, Nat.reduceAdd, Nat.reduceMul, Nat.reduceSub, Nat.reduceLT, Nat.reduceLeDiff, Nat.reduceEqDiff, Nat.reduceBEq, Nat.reduceBNe, Nat.reduceGT, Nat.reduceDiv, Nat.reduceMod, Int.reduceAdd, Int.reduceSub, Int.reduceNeg, Int.reduceLT, Int.reduceLE, Int.reduceEq, Int.reduceToNat, fA]
    refine ⟨fun h2 => ?_, fun h2 => hR _ (fin_of0 ?_)⟩
    · refine onF_data (in_spec s.kerf 0 50) ?_ ?_
      · simp (maxSteps := 2000000) only [okA, ↓okP, Nat.reduceAdd, Nat.reduceMul, Nat.reduceSub, Nat.reduceLT, Nat.reduceLeDiff, Nat.reduceEqDiff, Nat.reduceBEq, ↓reduceIte, reduceCtorEq]
      simp (maxSteps := 2000000) only [vcA, ↓vcP, ↓reduceIte, reduceCtorEq, Nat.reduceAdd, Nat.reduceMul, Nat.reduceSub, Nat.reduceLT, Nat.reduceLeDiff, Nat.reduceEqDiff, Nat.reduceBEq, Nat.reduceBNe, Nat.reduceGT, Nat.reduceDiv, Nat.reduceMod, Int.reduceAdd, Int.reduceSub, Int.reduceNeg, Int.reduceLT, Int.reduceLE, Int.reduceEq, Int.reduceToNat, fA]
      refine ⟨fun h3 => ?_, fun h3 => hR _ (fin_of0 ?_)⟩
      · refine onF_data (in_spec s.across 0 50) ?_ ?_
        · simp (maxSteps := 2000000) only [okA, ↓okP, Nat.reduceAdd, Nat.reduceMul, Nat.reduceSub, Nat.reduceLT, Nat.reduceLeDiff, Nat.reduceEqDiff, Nat.reduceBEq, ↓reduceIte, reduceCtorEq]
        simp (maxSteps := 2000000) only [vcA, ↓vcP, ↓reduceIte, reduceCtorEq, Nat.reduceAdd, Nat.reduceMul, Nat.reduceSub, Nat.reduceLT, Nat.reduceLeDiff, Nat.reduceEqDiff, Nat.reduceBEq, Nat.reduceBNe, Nat.reduceGT, Nat.reduceDiv, Nat.reduceMod, Int.reduceAdd, Int.reduceSub, Int.reduceNeg, Int.reduceLT, Int.reduceLE, Int.reduceEq, Int.reduceToNat, fA]
        refine hR _ (fin_of0 ?_)
        simp (maxSteps := 2000000) only [enA, ↓enP, Nat.reduceAdd, Nat.reduceMul, Nat.reduceSub, Nat.reduceLT, Nat.reduceLeDiff, Nat.reduceEqDiff, Nat.reduceBEq, ↓reduceIte, reduceCtorEq, fA]
        have := betw1 h3
        unfold sawOk
        rw [h1, h2]
        rw [Bool.eq_iff_iff]
        simp [betw]
        omega
      · simp (maxSteps := 2000000) only [enA, ↓enP, Nat.reduceAdd, Nat.reduceMul, Nat.reduceSub, Nat.reduceLT, Nat.reduceLeDiff, Nat.reduceEqDiff, Nat.reduceBEq, ↓reduceIte, reduceCtorEq, fA]
        simp [betw] at h3
        simp [sawOk, betw]
        omega
    · simp (maxSteps := 2000000) only [enA, ↓enP, Nat.reduceAdd, Nat.reduceMul, Nat.reduceSub, Nat.reduceLT, Nat.reduceLeDiff, Nat.reduceEqDiff, Nat.reduceBEq, ↓reduceIte, reduceCtorEq, fA]
      simp [sawOk, h2]
  · simp (maxSteps := 2000000) only [enA, ↓enP, Nat.reduceAdd, Nat.reduceMul, Nat.reduceSub, Nat.reduceLT, Nat.reduceLeDiff, Nat.reduceEqDiff, Nat.reduceBEq, ↓reduceIte, reduceCtorEq, fA]
    simp [sawOk, h1]
theorem turned_spec (l : List Sp) (hl : l.length < 1000000) : SpecF Try.prog 74 [.sl 2 (l.map spR)] (.sl 2 (l.reverse.map spR)) [] := by
  refine SpecG.frz (r := .ob 0 l.reverse.length) (objs := [.row 85 2 (l.reverse.map spR) false]) ?_
  refine spec_go (N := 21) (rs := [.tmp 2]) (eq := eqs) rfl rfl fun_74 rfl (by kernel_rfl) (by kernel_rfl) (by simp) (by simp) (by simp) (by simp) fun R hR => ?_
  simp (maxSteps := 2000000) only [vcA, ↓vcP, ↓reduceIte, reduceCtorEq, Nat.reduceAdd, Nat.reduceMul, Nat.reduceSub, Nat.reduceLT, Nat.reduceLeDiff, Nat.reduceEqDiff, Nat.reduceBEq, Nat.reduceBNe, Nat.reduceGT, Nat.reduceDiv, Nat.reduceMod, Int.reduceAdd, Int.reduceSub, Int.reduceNeg, Int.reduceLT, Int.reduceLE, Int.reduceEq, Int.reduceToNat, fA]
  refine goC_loop (α := {i : Nat // i ≤ l.length}) (fun x => ⟨[(0, .sl 2 (l.map spR)), (3, .ob 64 x.1), (4, .v (.int .i64 ((l.length : Int) - 1 - x.1)))], [(64, .row 85 2 ((l.reverse.take x.1).map spR) false)]⟩) (fun x => l.length - x.1) ⟨0, by omega⟩ [some 16] ?_ ?_
  · simp (maxSteps := 2000000) only [enA, ↓enP, Nat.reduceAdd, Nat.reduceMul, Nat.reduceSub, Nat.reduceLT, Nat.reduceLeDiff, Nat.reduceEqDiff, Nat.reduceBEq, ↓reduceIte, reduceCtorEq, fA]
    rw [wrap_id (by omega) (by omega)]
    omega
  intro x B hB
  obtain ⟨i, hi⟩ := x
  have htl : (l.reverse.take i).length = i := by simp; omega
  have e1 : ((l.length : Int) - 1 - i).toNat = l.length - 1 - i := by omega
  by_cases hc : i < l.length
  · have qc : ((l.length : Int) - 1 - i ≥ 0) = True := eq_true (by omega)
    have q1 : ((0 : Int) ≤ (l.length : Int) - 1 - i) = True := eq_true (by omega)
    have q2 : ((l.length : Int) - 1 - i < l.length) = True := eq_true (by omega)
    have q3 : (l.length - 1 - i < l.length) = True := eq_true (by omega)
    have hn : nth l (l.length - 1 - i) = nth l.reverse i := by
      unfold nth
      rw [List.getD_eq_getElem?_getD, List.getD_eq_getElem?_getD, List.getElem?_reverse hc]
    simp (maxSteps := 2000000) only [vcA, ↓vcP, ↓reduceIte, reduceCtorEq, Nat.reduceAdd, Nat.reduceMul, Nat.reduceSub, Nat.reduceLT, Nat.reduceLeDiff, Nat.reduceEqDiff, Nat.reduceBEq, Nat.reduceBNe, Nat.reduceGT, Nat.reduceDiv, Nat.reduceMod, Int.reduceAdd, Int.reduceSub, Int.reduceNeg, Int.reduceLT, Int.reduceLE, Int.reduceEq, Int.reduceToNat, fA, qc, q1, q2, q3, e1, spR, htl]
    refine ⟨⟨by omega, by simp only [maxLen]; omega⟩, fun _ => hB _ ⟨i + 1, by omega⟩ [some 160] (by simp only; omega) rfl ?_⟩
    simp (maxSteps := 2000000) only [enA, ↓enP, Nat.reduceAdd, Nat.reduceMul, Nat.reduceSub, Nat.reduceLT, Nat.reduceLeDiff, Nat.reduceEqDiff, Nat.reduceBEq, ↓reduceIte, reduceCtorEq, fA]
    rw [wrap_id (by omega) (by omega), take_nth (l := l.reverse) (by simp; omega), List.map_append, hn]
    refine ⟨by omega, rfl⟩
  · have qc : ((l.length : Int) - 1 - i ≥ 0) = False := eq_false (by omega)
    have : i = l.length := by omega
    subst this
    simp (maxSteps := 2000000) only [vcA, ↓vcP, ↓reduceIte, reduceCtorEq, Nat.reduceAdd, Nat.reduceMul, Nat.reduceSub, Nat.reduceLT, Nat.reduceLeDiff, Nat.reduceEqDiff, Nat.reduceBEq, Nat.reduceBNe, Nat.reduceGT, Nat.reduceDiv, Nat.reduceMod, Int.reduceAdd, Int.reduceSub, Int.reduceNeg, Int.reduceLT, Int.reduceLE, Int.reduceEq, Int.reduceToNat, fA, qc]
    refine hR _ (fin_of1 [some 64] ?_)
    simp (maxSteps := 2000000) only [enA, ↓enP, Nat.reduceAdd, Nat.reduceMul, Nat.reduceSub, Nat.reduceLT, Nat.reduceLeDiff, Nat.reduceEqDiff, Nat.reduceBEq, ↓reduceIte, reduceCtorEq, fA]
    rw [List.take_of_length_le (by simp)]
    simp
/-- Can an edge be at this height, by the columns before it alone? -/
def reachB (l : List Sp) (bend : Int) : Nat → Int → Bool
  | 0, h => decide ((nth l 0).1 ≤ h) && decide (h ≤ (nth l 0).2)
  | i + 1, h => decide ((nth l (i + 1)).1 ≤ h) && decide (h ≤ (nth l (i + 1)).2) && (List.range 301).any fun k : Nat => decide (h - bend ≤ (k : Int)) && decide ((k : Int) ≤ h + bend) && reachB l bend i k
def bR (b : Bool) : List DV := [.v (.bool b)]
def rowB (f : Int → Bool) : List Bool := (List.range 301).map fun h : Nat => f h
theorem rowB_length (f : Int → Bool) : (rowB f).length = 301 := by simp [rowB]
theorem rowB_nth {f : Int → Bool} {h : Nat} (hh : h < 301) : nth (rowB f) h = f h := nth_range hh
theorem rowB_set {f : Int → Bool} {h : Nat} {b : Bool} (hh : h < 301) : (rowB f).set h b = rowB fun x => if x = (h : Int) then b else f x := by
  refine list_ext (by simp [rowB]) fun k hk => ?_
  have hk' : k < 301 := by simpa [rowB] using hk
  rw [nth_set _ _ _ _ (by rw [rowB_length]; exact hk'), rowB_nth hk', rowB_nth hk']
  by_cases e : h = k
  · subst e; rw [if_pos rfl, if_pos rfl]
  · rw [if_neg e, if_neg (by omega)]
theorem rowB_congr {f g : Int → Bool} (h : ∀ x : Nat, x < 301 → f x = g x) : rowB f = rowB g := by
  refine list_ext (by simp [rowB]) fun k hk => ?_
  have hk' : k < 301 := by simpa [rowB] using hk
  rw [rowB_nth hk', rowB_nth hk', h k hk']
/-- A row of marks. -/
def rowR (f : Int → Bool) : List DV := [.sl 1 ((rowB f).map bR)]
def reachR (l : List Sp) (bend : Int) (i : Nat) : List DV := rowR (reachB l bend i)
/-- What is known of a height when all heights from k on beside the column before are still to be looked at. -/
def partB (g : Int → Bool) (lo : Int) (k : Int) : Bool := (List.range 301).any fun j : Nat => decide (lo ≤ (j : Int)) && decide ((j : Int) < k) && g j
theorem partB_start (g : Int → Bool) (lo : Int) {k : Int} (h : k ≤ lo ∨ k ≤ 0) : partB g lo k = false := by
  unfold partB
  rw [List.any_eq_false]
  intro j _
  simp
  omega
theorem partB_step (g : Int → Bool) (lo : Int) {k : Nat} (hk : k < 301) (h : lo ≤ k) : partB g lo ((k : Int) + 1) = (partB g lo k || g k) := by
  rw [Bool.eq_iff_iff]
  unfold partB
  simp only [Bool.or_eq_true, List.any_eq_true, Bool.and_eq_true, decide_eq_true_eq, List.mem_range]
  constructor
  · rintro ⟨j, h1, ⟨h2, h3⟩, h4⟩
    by_cases e : j = k
    · subst e; exact .inr h4
    · exact .inl ⟨j, h1, ⟨h2, by omega⟩, h4⟩
  · rintro (⟨j, h1, ⟨h2, h3⟩, h4⟩ | h4)
    · exact ⟨j, h1, ⟨h2, by omega⟩, h4⟩
    · exact ⟨k, hk, ⟨h, by omega⟩, h4⟩
theorem reachB_part {l : List Sp} {bend : Int} {i : Nat} {h k : Int} (h1 : (nth l (i + 1)).1 ≤ h) (h2 : h ≤ (nth l (i + 1)).2) (hk : k = min 300 (h + bend) + 1) : reachB l bend (i + 1) h = partB (reachB l bend i) (max 0 (h - bend)) k := by
  rw [reachB, decide_eq_true h1, decide_eq_true h2]
  rw [Bool.eq_iff_iff]
  unfold partB
  simp only [Bool.true_and, Bool.and_self, List.any_eq_true, Bool.and_eq_true, decide_eq_true_eq, List.mem_range]
  constructor
  · rintro ⟨j, h1, ⟨h2, h3⟩, h4⟩
    exact ⟨j, h1, ⟨by omega, by omega⟩, h4⟩
  · rintro ⟨j, h1, ⟨h2, h3⟩, h4⟩
    exact ⟨j, h1, ⟨by omega, by omega⟩, h4⟩
theorem reachB_out {l : List Sp} {bend : Int} {i : Nat} {h : Int} (h1 : h < (nth l i).1 ∨ (nth l i).2 < h) : reachB l bend i h = false := by
  cases i with
  | zero =>
    rw [reachB]
    rcases h1 with h1 | h1
    · rw [decide_eq_false (show ¬ (nth l 0).1 ≤ h by omega)]; rfl
    · rw [decide_eq_false (show ¬ h ≤ (nth l 0).2 by omega)]; simp
  | succ i =>
    rw [reachB]
    rcases h1 with h1 | h1
    · rw [decide_eq_false (show ¬ (nth l (i + 1)).1 ≤ h by omega)]; rfl
    · rw [decide_eq_false (show ¬ h ≤ (nth l (i + 1)).2 by omega)]; simp
end Go.Proofs.Ytafpicjnccffgaa.Ab.T01
namespace Go.Proofs.Ytafpicjnccffgaa.Ab.T01
open Go Go.RowKit
set_option linter.unusedSimpArgs false
set_option linter.unusedVariables false
set_option maxRecDepth 100000
theorem set_bR (L : List Bool) (i : Nat) (b : Bool) (h : i < L.length) : (L.map bR).set i (put ((L.map bR).getD i []) 0 [.v (.bool b)]) = (L.set i b).map bR := by
  rw [nth_map bR L i h, List.map_set]
  rfl
theorem rep_bR (n : Nat) (h : n = 301) : List.replicate n [DV.v (.bool false)] = (rowB fun _ => false).map bR := by
  subst h
  rw [List.eq_replicate_iff.2 ⟨rowB_length _, fun b hb => ?_⟩, List.map_replicate]
  · rfl
  · obtain ⟨k, _, rfl⟩ := List.mem_map.1 hb
    rfl
/-- What is known of a height so far. -/
def valB (l : List Sp) (bend : Int) (i : Nat) (h k : Int) : Bool := if i = 0 then true else partB (reachB l bend (i - 1)) (max 0 (h - bend)) k
theorem reach_spec (l : List Sp) (bend : Int) (hl : l.length < 1000) (hok : Okl l) (hb : 0 ≤ bend ∧ bend ≤ 300) : SpecF Try.prog 73 [.sl 2 (l.map spR), .v (.int .i64 bend)] (.sl 1 ((List.range l.length).map (reachR l bend))) [] := by
  refine SpecG.frz (r := .ob 0 l.length) (objs := [.row 140 1 ((List.range l.length).map (reachR l bend)) false]) ?_
  refine spec_go (N := 75) (rs := [.tmp 4]) (eq := eqs) rfl rfl fun_73 rfl (by kernel_rfl) (by kernel_rfl) (by simp) (by simp) (by simp) (by simp) fun R hR => ?_
  simp (maxSteps := 2000000) only [vcA, ↓vcP, ↓reduceIte, reduceCtorEq, Nat.reduceAdd, Nat.reduceMul, Nat.reduceSub, Nat.reduceLT, Nat.reduceLeDiff, Nat.reduceEqDiff, Nat.reduceBEq, Nat.reduceBNe, Nat.reduceGT, Nat.reduceDiv, Nat.reduceMod, Int.reduceAdd, Int.reduceSub, Int.reduceNeg, Int.reduceLT, Int.reduceLE, Int.reduceEq, Int.reduceToNat, fA]
  refine goC_loop (α := {i : Nat // i ≤ l.length}) (fun x => ⟨[(0, .sl 2 (l.map spR)), (1, .v (.int .i64 bend)), (5, .ob 40 x.1), (6, .v (.int .i64 x.1))], [(40, .row 140 1 ((List.range x.1).map (reachR l bend)) false)]⟩) (fun x => l.length - x.1) ⟨0, by omega⟩ [some 16] ?_ ?_
  · simp (maxSteps := 2000000) only [enA, ↓enP, Nat.reduceAdd, Nat.reduceMul, Nat.reduceSub, Nat.reduceLT, Nat.reduceLeDiff, Nat.reduceEqDiff, Nat.reduceBEq, ↓reduceIte, reduceCtorEq, fA]
    exact ⟨rfl, rfl⟩
  intro x B hB
  obtain ⟨i, hi⟩ := x
  by_cases hc : i < l.length
  · have qc : (i < l.length) = True := eq_true hc
    have e3 : IntKind.i64.wrap ((i : Int) + 1) = ((i + 1 : Nat) : Int) := wrap_id (by omega) (by omega)
    have ho := hok _ (nth_mem hc)
    generalize hs : nth l i = s at *
    simp (maxSteps := 2000000) only [vcA, ↓vcP, ↓reduceIte, reduceCtorEq, Nat.reduceAdd, Nat.reduceMul, Nat.reduceSub, Nat.reduceLT, Nat.reduceLeDiff, Nat.reduceEqDiff, Nat.reduceBEq, Nat.reduceBNe, Nat.reduceGT, Nat.reduceDiv, Nat.reduceMod, Int.reduceAdd, Int.reduceSub, Int.reduceNeg, Int.reduceLT, Int.reduceLE, Int.reduceEq, Int.reduceToNat, fA, qc, e3, spR, hs]
    refine ⟨⟨by omega, by simp only [maxLen]; omega⟩, fun _ => ?_⟩
    refine goC_loop (α := {h : Int // s.1 ≤ h ∧ h ≤ s.2 + 1}) (fun x => ⟨[(0, .sl 2 (l.map spR)), (1, .v (.int .i64 bend)), (5, .ob 40 i), (6, .v (.int .i64 i)), (7, .ob 104 301), (8, .v (.int .i64 x.1))], [(40, .row 140 1 ((List.range i).map (reachR l bend)) false), (104, .row 4 1 ((rowB fun y => decide (y < x.1) && reachB l bend i y).map bR) false)]⟩) (fun x => (s.2 + 1 - x.1).toNat) ⟨s.1, by omega, by omega⟩ [] ?_ ?_
    · simp (maxSteps := 2000000) only [enA, ↓enP, Nat.reduceAdd, Nat.reduceMul, Nat.reduceSub, Nat.reduceLT, Nat.reduceLeDiff, Nat.reduceEqDiff, Nat.reduceBEq, ↓reduceIte, reduceCtorEq, fA]
      have : (rowB fun y => decide (y < s.1) && reachB l bend i y) = rowB fun _ => false := rowB_congr fun y hy => by
        by_cases hys : (y : Int) < s.1
        · rw [reachB_out (.inl (by rw [hs]; exact hys))]; simp
        · rw [decide_eq_false hys]; rfl
      rw [this, ← rep_bR 301 rfl]
      rfl
    intro x B2 hB2
    obtain ⟨h, h1, h2⟩ := x
    obtain ⟨H, rfl⟩ : ∃ H : Nat, h = H := ⟨h.toNat, by omega⟩
    by_cases hh : (H : Int) ≤ s.2
    · have qh : ((H : Int) ≤ s.2) = True := eq_true hh
      have q301 : (H < 301) = True := eq_true (by omega)
      have e4 : IntKind.i64.wrap ((H : Int) + 1) = ((H + 1 : Nat) : Int) := wrap_id (by omega) (by omega)
      have e5 : IntKind.i64.wrap ((H : Int) - bend) = H - bend := wrap_id (by omega) (by omega)
      have hlr : ∀ f, (rowB f).length = 301 := rowB_length
      simp (maxSteps := 2000000) only [vcA, ↓vcP, ↓reduceIte, reduceCtorEq, Nat.reduceAdd, Nat.reduceMul, Nat.reduceSub, Nat.reduceLT, Nat.reduceLeDiff, Nat.reduceEqDiff, Nat.reduceBEq, Nat.reduceBNe, Nat.reduceGT, Nat.reduceDiv, Nat.reduceMod, Int.reduceAdd, Int.reduceSub, Int.reduceNeg, Int.reduceLT, Int.reduceLE, Int.reduceEq, Int.reduceToNat, fA, qc, qh, e4, e5, spR, hs, q301, rowB_length]
      refine ⟨by omega, fun _ => ?_⟩
      rw [set_bR _ _ _ (by rw [rowB_length]; omega), rowB_set (by omega)]
      have hk0 : 0 ≤ max 0 ((H : Int) - bend) ∧ max 0 ((H : Int) - bend) ≤ min 300 ((H : Int) + bend) + 1 := by omega
      refine goC_loop (α := {k : Int // max 0 ((H : Int) - bend) ≤ k ∧ k ≤ min 300 ((H : Int) + bend) + 1}) (fun x => ⟨[(0, .sl 2 (l.map spR)), (1, .v (.int .i64 bend)), (5, .ob 40 i), (6, .v (.int .i64 i)), (7, .ob 104 301), (8, .v (.int .i64 H)), (9, .v (.int .i64 x.1))], [(40, .row 140 1 ((List.range i).map (reachR l bend)) false), (104, .row 4 1 ((rowB fun y => if y = (H : Int) then valB l bend i H x.1 else decide (y < (H : Int)) && reachB l bend i y).map bR) false)]⟩) (fun x => (min 300 ((H : Int) + bend) + 1 - x.1).toNat) ⟨max 0 ((H : Int) - bend), by omega, by omega⟩ [] ?_ ?_
      · simp (maxSteps := 2000000) only [enA, ↓enP, Nat.reduceAdd, Nat.reduceMul, Nat.reduceSub, Nat.reduceLT, Nat.reduceLeDiff, Nat.reduceEqDiff, Nat.reduceBEq, ↓reduceIte, reduceCtorEq, fA]
        have hv : valB l bend i H (max 0 ((H : Int) - bend)) = ((i : Int) == 0) := by
          unfold valB
          by_cases h0 : i = 0
          · subst h0; rfl
          · rw [if_neg h0, partB_start _ _ (.inl (Int.le_refl _))]
            exact (beq_eq_false_iff_ne.2 (by omega)).symm
        rw [hv]
      intro x B3 hB3
      obtain ⟨k, k1, k2⟩ := x
      obtain ⟨K, rfl⟩ : ∃ K : Nat, k = K := ⟨k.toNat, by omega⟩
      have e6 : IntKind.i64.wrap ((K : Int) + 1) = ((K + 1 : Nat) : Int) := wrap_id (by omega) (by omega)
      have e7 : IntKind.i64.wrap ((H : Int) + bend) = H + bend := wrap_id (by omega) (by omega)
      have e8 : i ≠ 0 → IntKind.i64.wrap ((i : Int) - 1) = ((i - 1 : Nat) : Int) := fun h0 => by rw [wrap_id (by omega) (by omega)]; omega
      have hn : nth (rowB fun y => if y = (H : Int) then valB l bend i H K else decide (y < (H : Int)) && reachB l bend i y) H = valB l bend i H K := by rw [rowB_nth (by omega), if_pos rfl]
      -- the height is known
      have fin : valB l bend i H K = reachB l bend i H → (rowB fun y => if y = (H : Int) then valB l bend i H K else decide (y < (H : Int)) && reachB l bend i y) = rowB fun y => decide (y < ((H + 1 : Nat) : Int)) && reachB l bend i y := fun he => rowB_congr fun y hy => by
        by_cases e : (y : Int) = H
        · rw [if_pos e, he, e, decide_eq_true (by omega)]; rfl
        · rw [if_neg e]
          by_cases e2 : (y : Int) < H
          · rw [decide_eq_true e2, decide_eq_true (by omega)]
          · rw [decide_eq_false e2, decide_eq_false (by omega)]
      by_cases h0 : i = 0
      · have qi : ((i : Int) > 0) = False := eq_false (by omega)
        have he : valB l bend i H K = reachB l bend i H := by
          unfold valB
          rw [if_pos h0, h0, reachB]
          rw [h0] at hs
          rw [hs, decide_eq_true h1, decide_eq_true hh]
          rfl
        simp (maxSteps := 2000000) only [vcA, ↓vcP, ↓reduceIte, reduceCtorEq, Nat.reduceAdd, Nat.reduceMul, Nat.reduceSub, Nat.reduceLT, Nat.reduceLeDiff, Nat.reduceEqDiff, Nat.reduceBEq, Nat.reduceBNe, Nat.reduceGT, Nat.reduceDiv, Nat.reduceMod, Int.reduceAdd, Int.reduceSub, Int.reduceNeg, Int.reduceLT, Int.reduceLE, Int.reduceEq, Int.reduceToNat, fA, qi, e4]
        rw [fin he]
        refine hB2 _ ⟨((H + 1 : Nat) : Int), by omega, by omega⟩ [] (by simp only; omega) rfl ?_
        simp (maxSteps := 2000000) only [enA, ↓enP, Nat.reduceAdd, Nat.reduceMul, Nat.reduceSub, Nat.reduceLT, Nat.reduceLeDiff, Nat.reduceEqDiff, Nat.reduceBEq, ↓reduceIte, reduceCtorEq, fA]
      · have qi : ((i : Int) > 0) = True := eq_true (by omega)
        have e9 := e8 h0
        by_cases hk : (K : Int) ≤ min 300 ((H : Int) + bend)
        · have qk : ((K : Int) ≤ min 300 ((H : Int) + bend)) = True := eq_true hk
          have hset : ∀ b, (List.map bR (rowB fun y => if y = (H : Int) then valB l bend i H K else decide (y < (H : Int)) && reachB l bend i y)).set H (put ((List.map bR (rowB fun y => if y = (H : Int) then valB l bend i H K else decide (y < (H : Int)) && reachB l bend i y)).getD H []) 0 [.v (.bool b)]) = List.map bR (rowB fun y => if y = (H : Int) then b else decide (y < (H : Int)) && reachB l bend i y) := fun b => by
            rw [set_bR _ _ _ (by rw [rowB_length]; omega), rowB_set (by omega)]
            congr 1
            refine rowB_congr fun y hy => ?_
            by_cases e : (y : Int) = H
            · rw [if_pos e, if_pos e]
            · rw [if_neg e, if_neg e, if_neg e]
          have hstep : valB l bend i H ((K + 1 : Nat) : Int) = (valB l bend i H K || reachB l bend (i - 1) K) := by
            unfold valB
            rw [if_neg h0, if_neg h0]
            exact partB_step _ _ (by omega) k1
          have qK : (K < 301) = True := eq_true (by omega)
          have ql : (i - 1 < i) = True := eq_true (by omega)
          have hri : nth (List.range i) (i - 1) = i - 1 := by
            have := nth_range (n := i) (f := id) (k := i - 1) (by omega)
            simpa using this
          have hrn : nth (rowB (reachB l bend (i - 1))) K = reachB l bend (i - 1) K := rowB_nth (by omega)
          simp (maxSteps := 2000000) only [vcA, ↓vcP, ↓reduceIte, reduceCtorEq, Nat.reduceAdd, Nat.reduceMul, Nat.reduceSub, Nat.reduceLT, Nat.reduceLeDiff, Nat.reduceEqDiff, Nat.reduceBEq, Nat.reduceBNe, Nat.reduceGT, Nat.reduceDiv, Nat.reduceMod, Int.reduceAdd, Int.reduceSub, Int.reduceNeg, Int.reduceLT, Int.reduceLE, Int.reduceEq, Int.reduceToNat, fA, qi, qk, e6, e7, e9, rowB_length, q301, hn, hrn, reachR, rowR, bR, hri, qK, ql, List.length_range]
          refine ⟨by omega, fun _ => ⟨fun hv => ⟨by omega, fun _ => ⟨by omega, fun _ => ?_⟩⟩, fun hv => ⟨by omega, fun _ => ?_⟩⟩⟩
          · rw [hset]
            rw [hv, Bool.false_or] at hstep
            rw [← hstep]
            refine hB3 _ ⟨((K + 1 : Nat) : Int), by omega, by omega⟩ [] (by simp only; omega) rfl ?_
            simp (maxSteps := 2000000) only [enA, ↓enP, Nat.reduceAdd, Nat.reduceMul, Nat.reduceSub, Nat.reduceLT, Nat.reduceLeDiff, Nat.reduceEqDiff, Nat.reduceBEq, ↓reduceIte, reduceCtorEq, fA]
          · rw [hset]
            rw [hv, Bool.true_or] at hstep
            rw [← hstep]
            refine hB3 _ ⟨((K + 1 : Nat) : Int), by omega, by omega⟩ [] (by simp only; omega) rfl ?_
            simp (maxSteps := 2000000) only [enA, ↓enP, Nat.reduceAdd, Nat.reduceMul, Nat.reduceSub, Nat.reduceLT, Nat.reduceLeDiff, Nat.reduceEqDiff, Nat.reduceBEq, ↓reduceIte, reduceCtorEq, fA]
        · have qk : ((K : Int) ≤ min 300 ((H : Int) + bend)) = False := eq_false hk
          have he : valB l bend i H K = reachB l bend i H := by
            unfold valB
            rw [if_neg h0]
            have := reachB_part (l := l) (bend := bend) (i := i - 1) (h := (H : Int)) (k := (K : Int)) (by rw [show i - 1 + 1 = i by omega, hs]; exact h1) (by rw [show i - 1 + 1 = i by omega, hs]; exact hh) (by omega)
            rw [show i - 1 + 1 = i by omega] at this
            exact this.symm
          simp (maxSteps := 2000000) only [vcA, ↓vcP, ↓reduceIte, reduceCtorEq, Nat.reduceAdd, Nat.reduceMul, Nat.reduceSub, Nat.reduceLT, Nat.reduceLeDiff, Nat.reduceEqDiff, Nat.reduceBEq, Nat.reduceBNe, Nat.reduceGT, Nat.reduceDiv, Nat.reduceMod, Int.reduceAdd, Int.reduceSub, Int.reduceNeg, Int.reduceLT, Int.reduceLE, Int.reduceEq, Int.reduceToNat, fA, qi, qk, e4, e6, e7, e9]
          rw [fin he]
          refine hB2 _ ⟨((H + 1 : Nat) : Int), by omega, by omega⟩ [] (by simp only; omega) rfl ?_
          simp (maxSteps := 2000000) only [enA, ↓enP, Nat.reduceAdd, Nat.reduceMul, Nat.reduceSub, Nat.reduceLT, Nat.reduceLeDiff, Nat.reduceEqDiff, Nat.reduceBEq, ↓reduceIte, reduceCtorEq, fA]
    · have qh : ((H : Int) ≤ s.2) = False := eq_false hh
      simp (maxSteps := 2000000) only [vcA, ↓vcP, ↓reduceIte, reduceCtorEq, Nat.reduceAdd, Nat.reduceMul, Nat.reduceSub, Nat.reduceLT, Nat.reduceLeDiff, Nat.reduceEqDiff, Nat.reduceBEq, Nat.reduceBNe, Nat.reduceGT, Nat.reduceDiv, Nat.reduceMod, Int.reduceAdd, Int.reduceSub, Int.reduceNeg, Int.reduceLT, Int.reduceLE, Int.reduceEq, Int.reduceToNat, fA, qc, qh, spR, hs]
      have hrl : (List.range i).length + 1 ≤ 1000 := by rw [List.length_range]; omega
      refine ⟨⟨by omega, by simp only [maxLen]; omega⟩, fun _ => hB _ ⟨i + 1, by omega⟩ [some 280] (by simp only; omega) rfl ?_⟩
      have : (rowB fun y => decide (y < (H : Int)) && reachB l bend i y) = rowB (reachB l bend i) := rowB_congr fun y hy => by
        by_cases e : (y : Int) < H
        · rw [decide_eq_true e]; rfl
        · rw [reachB_out (.inr (by rw [hs]; omega))]; simp
      rw [this]
      simp (maxSteps := 2000000) only [enA, ↓enP, Nat.reduceAdd, Nat.reduceMul, Nat.reduceSub, Nat.reduceLT, Nat.reduceLeDiff, Nat.reduceEqDiff, Nat.reduceBEq, ↓reduceIte, reduceCtorEq, fA]
      rw [List.length_range, e3, List.range_succ, List.map_append]
      exact ⟨⟨rfl, rfl⟩, rfl⟩
  · have qc : (i < l.length) = False := eq_false hc
    have : i = l.length := by omega
    subst this
    simp (maxSteps := 2000000) only [vcA, ↓vcP, ↓reduceIte, reduceCtorEq, Nat.reduceAdd, Nat.reduceMul, Nat.reduceSub, Nat.reduceLT, Nat.reduceLeDiff, Nat.reduceEqDiff, Nat.reduceBEq, Nat.reduceBNe, Nat.reduceGT, Nat.reduceDiv, Nat.reduceMod, Int.reduceAdd, Int.reduceSub, Int.reduceNeg, Int.reduceLT, Int.reduceLE, Int.reduceEq, Int.reduceToNat, fA, qc]
    refine hR _ (fin_of1 [some 40] ?_)
    simp (maxSteps := 2000000) only [enA, ↓enP, Nat.reduceAdd, Nat.reduceMul, Nat.reduceSub, Nat.reduceLT, Nat.reduceLeDiff, Nat.reduceEqDiff, Nat.reduceBEq, ↓reduceIte, reduceCtorEq, fA]
end Go.Proofs.Ytafpicjnccffgaa.Ab.T01
namespace Go.Proofs.Ytafpicjnccffgaa.Ab.T01
open Go Go.RowKit
set_option linter.unusedSimpArgs false
set_option linter.unusedVariables false
set_option maxRecDepth 100000
/-- Some height beneath h; the first one, and the last one. -/
def scanB (g : Int → Bool) : Nat → Bool × Int × Int
  | 0 => (false, 0, 0)
  | h + 1 => if g h then (true, if (scanB g h).1 then (scanB g h).2.1 else h, h) else scanB g h
def bothB (l : List Sp) (bend : Int) (i : Nat) (h : Int) : Bool := reachB l bend i h && reachB l.reverse bend (l.length - 1 - i) h
def colR (l : List Sp) (bend : Int) (i : Nat) : Sp := (scanB (bothB l bend i) 301).2
def curveR (l : List Sp) (bend : Int) : List Sp := if ((List.range l.length).all fun i => (scanB (bothB l bend i) 301).1) = true then (List.range l.length).map (colR l bend) else []
theorem curveR_bad {l : List Sp} {bend : Int} {i : Nat} (hi : i < l.length) (h : (scanB (bothB l bend i) 301).1 = false) : curveR l bend = [] := by
  unfold curveR
  rw [if_neg]
  intro hc
  have := List.all_eq_true.1 hc i (List.mem_range.2 hi)
  rw [h] at this
  cases this
theorem curveR_good {l : List Sp} {bend : Int} (h : ∀ i, i < l.length → (scanB (bothB l bend i) 301).1 = true) : curveR l bend = (List.range l.length).map (colR l bend) := by
  unfold curveR
  rw [if_pos]
  exact List.all_eq_true.2 fun i hi => h i (List.mem_range.1 hi)
theorem refCurve_spec (l : List Sp) (bend : Int) (hl : l.length < 1000) (hok : Okl l) (hb : 0 ≤ bend ∧ bend ≤ 300) : SpecF Try.prog 52 [.sl 2 (l.map spR), .v (.int .i64 bend)] (.sl 2 ((curveR l bend).map spR)) [] := by
  refine SpecG.frz (r := .ob 0 (curveR l bend).length) (objs := [.row 85 2 ((curveR l bend).map spR) false]) ?_
  have hokr : Okl l.reverse := fun s hs => hok s (List.mem_reverse.1 hs)
  have hlr : l.reverse.length = l.length := List.length_reverse
  refine spec_go (N := 66) (rs := [.tmp 4]) (eq := eqs) rfl rfl fun_52 rfl (by kernel_rfl) (by kernel_rfl) (by simp) (by simp) (by simp) (by simp) fun R hR => ?_
  simp (maxSteps := 2000000) only [vcA, ↓vcP, ↓reduceIte, reduceCtorEq, Nat.reduceAdd, Nat.reduceMul, Nat.reduceSub, Nat.reduceLT, Nat.reduceLeDiff, Nat.reduceEqDiff, Nat.reduceBEq, Nat.reduceBNe, Nat.reduceGT, Nat.reduceDiv, Nat.reduceMod, Int.reduceAdd, Int.reduceSub, Int.reduceNeg, Int.reduceLT, Int.reduceLE, Int.reduceEq, Int.reduceToNat, fA]
  refine onF_data (reach_spec l bend hl hok hb) ?_ ?_
  · simp (maxSteps := 2000000) only [okA, ↓okP, Nat.reduceAdd, Nat.reduceMul, Nat.reduceSub, Nat.reduceLT, Nat.reduceLeDiff, Nat.reduceEqDiff, Nat.reduceBEq, ↓reduceIte, reduceCtorEq]
  simp (maxSteps := 2000000) only [vcA, ↓vcP, ↓reduceIte, reduceCtorEq, Nat.reduceAdd, Nat.reduceMul, Nat.reduceSub, Nat.reduceLT, Nat.reduceLeDiff, Nat.reduceEqDiff, Nat.reduceBEq, Nat.reduceBNe, Nat.reduceGT, Nat.reduceDiv, Nat.reduceMod, Int.reduceAdd, Int.reduceSub, Int.reduceNeg, Int.reduceLT, Int.reduceLE, Int.reduceEq, Int.reduceToNat, fA]
  refine onF_data (turned_spec l (by omega)) ?_ ?_
  · simp (maxSteps := 2000000) only [okA, ↓okP, Nat.reduceAdd, Nat.reduceMul, Nat.reduceSub, Nat.reduceLT, Nat.reduceLeDiff, Nat.reduceEqDiff, Nat.reduceBEq, ↓reduceIte, reduceCtorEq]
  simp (maxSteps := 2000000) only [vcA, ↓vcP, ↓reduceIte, reduceCtorEq, Nat.reduceAdd, Nat.reduceMul, Nat.reduceSub, Nat.reduceLT, Nat.reduceLeDiff, Nat.reduceEqDiff, Nat.reduceBEq, Nat.reduceBNe, Nat.reduceGT, Nat.reduceDiv, Nat.reduceMod, Int.reduceAdd, Int.reduceSub, Int.reduceNeg, Int.reduceLT, Int.reduceLE, Int.reduceEq, Int.reduceToNat, fA]
  have hr2 := reach_spec l.reverse bend (by omega) hokr hb
  rw [hlr] at hr2
  refine onF_data hr2 ?_ ?_
  · simp (maxSteps := 2000000) only [okA, ↓okP, Nat.reduceAdd, Nat.reduceMul, Nat.reduceSub, Nat.reduceLT, Nat.reduceLeDiff, Nat.reduceEqDiff, Nat.reduceBEq, ↓reduceIte, reduceCtorEq]
  simp (maxSteps := 2000000) only [vcA, ↓vcP, ↓reduceIte, reduceCtorEq, Nat.reduceAdd, Nat.reduceMul, Nat.reduceSub, Nat.reduceLT, Nat.reduceLeDiff, Nat.reduceEqDiff, Nat.reduceBEq, Nat.reduceBNe, Nat.reduceGT, Nat.reduceDiv, Nat.reduceMod, Int.reduceAdd, Int.reduceSub, Int.reduceNeg, Int.reduceLT, Int.reduceLE, Int.reduceEq, Int.reduceToNat, fA]
  refine goC_loop (α := {i : Nat // i ≤ l.length ∧ ∀ j, j < i → (scanB (bothB l bend j) 301).1 = true}) (fun x => ⟨[(0, .sl 2 (l.map spR)), (5, .sl 1 ((List.range l.length).map (reachR l bend))), (6, .sl 1 ((List.range l.length).map (reachR l.reverse bend))), (7, .ob 112 x.1), (8, .v (.int .i64 x.1))], [(112, .row 85 2 (((List.range x.1).map (colR l bend)).map spR) false)]⟩) (fun x => l.length - x.1) ⟨0, by omega, by omega⟩ [some 72] ?_ ?_
  · simp (maxSteps := 2000000) only [enA, ↓enP, Nat.reduceAdd, Nat.reduceMul, Nat.reduceSub, Nat.reduceLT, Nat.reduceLeDiff, Nat.reduceEqDiff, Nat.reduceBEq, ↓reduceIte, reduceCtorEq, fA]
    exact ⟨rfl, rfl⟩
  intro x B hB
  obtain ⟨i, hi, hg⟩ := x
  by_cases hc : i < l.length
  · have qc : (i < l.length) = True := eq_true hc
    have e3 : IntKind.i64.wrap ((i : Int) + 1) = ((i + 1 : Nat) : Int) := wrap_id (by omega) (by omega)
    have hri : ∀ j, j < l.length → nth (List.range l.length) j = j := fun j hj => by
      have := nth_range (n := l.length) (f := id) (k := j) hj
      simpa using this
    simp (maxSteps := 2000000) only [vcA, ↓vcP, ↓reduceIte, reduceCtorEq, Nat.reduceAdd, Nat.reduceMul, Nat.reduceSub, Nat.reduceLT, Nat.reduceLeDiff, Nat.reduceEqDiff, Nat.reduceBEq, Nat.reduceBNe, Nat.reduceGT, Nat.reduceDiv, Nat.reduceMod, Int.reduceAdd, Int.reduceSub, Int.reduceNeg, Int.reduceLT, Int.reduceLE, Int.reduceEq, Int.reduceToNat, fA, qc, e3]
    refine goC_loop (α := {h : Nat // h ≤ 301}) (fun x => ⟨[(0, .sl 2 (l.map spR)), (5, .sl 1 ((List.range l.length).map (reachR l bend))), (6, .sl 1 ((List.range l.length).map (reachR l.reverse bend))), (7, .ob 112 i), (8, .v (.int .i64 i)), (9, .ptr 184 0), (10, .v (.bool (scanB (bothB l bend i) x.1).1)), (11, .v (.int .i64 x.1))], [(112, .row 85 2 (((List.range i).map (colR l bend)).map spR) false), (184, .box 85 [.v (.int .i64 (scanB (bothB l bend i) x.1).2.1), .v (.int .i64 (scanB (bothB l bend i) x.1).2.2)])]⟩) (fun x => 301 - x.1) ⟨0, by omega⟩ [] ?_ ?_
    · simp (maxSteps := 2000000) only [enA, ↓enP, Nat.reduceAdd, Nat.reduceMul, Nat.reduceSub, Nat.reduceLT, Nat.reduceLeDiff, Nat.reduceEqDiff, Nat.reduceBEq, ↓reduceIte, reduceCtorEq, fA]
      exact ⟨⟨rfl, rfl⟩, rfl, rfl⟩
    intro x B2 hB2
    obtain ⟨h, hh⟩ := x
    by_cases hc2 : h < 301
    · have q2 : ((h : Int) ≤ 300) = True := eq_true (by omega)
      have e4 : IntKind.i64.wrap ((h : Int) + 1) = ((h + 1 : Nat) : Int) := wrap_id (by omega) (by omega)
      have e5 : IntKind.i64.wrap ((l.length : Int) - 1) = (l.length : Int) - 1 := wrap_id (by omega) (by omega)
      have e6 : IntKind.i64.wrap ((l.length : Int) - 1 - i) = ((l.length - 1 - i : Nat) : Int) := by rw [wrap_id (by omega) (by omega)]; omega
      have q301 : (h < 301) = True := eq_true (by omega)
      have qn : (l.length - 1 - i < l.length) = True := eq_true (by omega)
      have n1 := hri i hc
      have n2 := hri (l.length - 1 - i) (by omega)
      have n3 : nth (rowB (reachB l bend i)) h = reachB l bend i h := rowB_nth (by omega)
      have n4 : nth (rowB (reachB l.reverse bend (l.length - 1 - i))) h = reachB l.reverse bend (l.length - 1 - i) h := rowB_nth (by omega)
      have hs : scanB (bothB l bend i) (h + 1) = if bothB l bend i h then (true, if (scanB (bothB l bend i) h).1 then (scanB (bothB l bend i) h).2.1 else (h : Int), (h : Int)) else scanB (bothB l bend i) h := rfl
      simp (maxSteps := 2000000) only [vcA, ↓vcP, ↓reduceIte, reduceCtorEq, Nat.reduceAdd, Nat.reduceMul, Nat.reduceSub, Nat.reduceLT, Nat.reduceLeDiff, Nat.reduceEqDiff, Nat.reduceBEq, Nat.reduceBNe, Nat.reduceGT, Nat.reduceDiv, Nat.reduceMod, Int.reduceAdd, Int.reduceSub, Int.reduceNeg, Int.reduceLT, Int.reduceLE, Int.reduceEq, Int.reduceToNat, fA, qc, e3, e4, e5, e6, q2, q301, qn, n1, n2, n3, n4, reachR, rowR, bR, rowB_length, List.length_range]
      have skip : bothB l bend i h = false → scanB (bothB l bend i) (h + 1) = scanB (bothB l bend i) h := fun he => by rw [hs, he]; rfl
      refine ⟨by omega, fun _ => ⟨fun g1 => ⟨by omega, fun _ => ⟨fun g2 => hB2 _ ⟨h + 1, by omega⟩ [] (by simp only; omega) rfl ?_, fun g2 => ⟨fun g3 => hB2 _ ⟨h + 1, by omega⟩ [] (by simp only; omega) rfl ?_, fun g3 => hB2 _ ⟨h + 1, by omega⟩ [] (by simp only; omega) rfl ?_⟩⟩⟩, fun g1 => hB2 _ ⟨h + 1, by omega⟩ [] (by simp only; omega) rfl ?_⟩⟩
      · rw [skip (by simp at g2; simp [bothB, g2])]
        simp (maxSteps := 2000000) only [enA, ↓enP, Nat.reduceAdd, Nat.reduceMul, Nat.reduceSub, Nat.reduceLT, Nat.reduceLeDiff, Nat.reduceEqDiff, Nat.reduceBEq, ↓reduceIte, reduceCtorEq, fA]
      · have he : bothB l bend i h = true := by simp at g1 g2; simp [bothB, g1, g2]
        have g3 : (scanB (bothB l bend i) h).1 = false := by simpa using g3
        rw [hs, he, g3]
        simp (maxSteps := 2000000) only [enA, ↓enP, Nat.reduceAdd, Nat.reduceMul, Nat.reduceSub, Nat.reduceLT, Nat.reduceLeDiff, Nat.reduceEqDiff, Nat.reduceBEq, ↓reduceIte, reduceCtorEq, fA]
        trace_state
      · have he : bothB l bend i h = true := by simp at g1 g2; simp [bothB, g1, g2]
        have g3 : (scanB (bothB l bend i) h).1 = true := by simpa using g3
        rw [hs, he, g3]
        simp (maxSteps := 2000000) only [enA, ↓enP, Nat.reduceAdd, Nat.reduceMul, Nat.reduceSub, Nat.reduceLT, Nat.reduceLeDiff, Nat.reduceEqDiff, Nat.reduceBEq, ↓reduceIte, reduceCtorEq, fA]
        trace_state
      · rw [skip (by simp at g1; simp [bothB, g1])]
        simp (maxSteps := 2000000) only [enA, ↓enP, Nat.reduceAdd, Nat.reduceMul, Nat.reduceSub, Nat.reduceLT, Nat.reduceLeDiff, Nat.reduceEqDiff, Nat.reduceBEq, ↓reduceIte, reduceCtorEq, fA]
    · have q2 : ((h : Int) ≤ 300) = False := eq_false (by omega)
      have : h = 301 := by omega
      subst this
      simp (maxSteps := 2000000) only [vcA, ↓vcP, ↓reduceIte, reduceCtorEq, Nat.reduceAdd, Nat.reduceMul, Nat.reduceSub, Nat.reduceLT, Nat.reduceLeDiff, Nat.reduceEqDiff, Nat.reduceBEq, Nat.reduceBNe, Nat.reduceGT, Nat.reduceDiv, Nat.reduceMod, Int.reduceAdd, Int.reduceSub, Int.reduceNeg, Int.reduceLT, Int.reduceLE, Int.reduceEq, Int.reduceToNat, fA, q2]
      have hrl : (List.range i).length + 1 ≤ 1000 := by rw [List.length_range]; omega
      refine ⟨fun g1 => hR _ (fin_of1 [none] ?_), fun g1 => ⟨⟨by omega, by simp only [maxLen]; omega⟩, fun _ => hB _ ⟨i + 1, by omega, fun j hj => ?_⟩ [some 304] (by simp only; omega) rfl ?_⟩⟩
      · rw [curveR_bad hc (by simpa using g1)]
        simp (maxSteps := 2000000) only [enA, ↓enP, Nat.reduceAdd, Nat.reduceMul, Nat.reduceSub, Nat.reduceLT, Nat.reduceLeDiff, Nat.reduceEqDiff, Nat.reduceBEq, ↓reduceIte, reduceCtorEq, fA]
      · by_cases e : j = i
        · subst e; simpa using g1
        · exact hg j (by omega)
      · simp (maxSteps := 2000000) only [enA, ↓enP, Nat.reduceAdd, Nat.reduceMul, Nat.reduceSub, Nat.reduceLT, Nat.reduceLeDiff, Nat.reduceEqDiff, Nat.reduceBEq, ↓reduceIte, reduceCtorEq, fA]
        rw [List.length_range, e3, List.range_succ, List.map_append, List.map_append]
        exact ⟨⟨rfl, rfl⟩, rfl⟩
  · have qc : (i < l.length) = False := eq_false hc
    have : i = l.length := by omega
    subst this
    simp (maxSteps := 2000000) only [vcA, ↓vcP, ↓reduceIte, reduceCtorEq, Nat.reduceAdd, Nat.reduceMul, Nat.reduceSub, Nat.reduceLT, Nat.reduceLeDiff, Nat.reduceEqDiff, Nat.reduceBEq, Nat.reduceBNe, Nat.reduceGT, Nat.reduceDiv, Nat.reduceMod, Int.reduceAdd, Int.reduceSub, Int.reduceNeg, Int.reduceLT, Int.reduceLE, Int.reduceEq, Int.reduceToNat, fA, qc]
    refine hR _ (fin_of1 [some 112] ?_)
    rw [curveR_good hg]
    simp (maxSteps := 2000000) only [enA, ↓enP, Nat.reduceAdd, Nat.reduceMul, Nat.reduceSub, Nat.reduceLT, Nat.reduceLeDiff, Nat.reduceEqDiff, Nat.reduceBEq, ↓reduceIte, reduceCtorEq, fA]
    simp
end Go.Proofs.Ytafpicjnccffgaa.Ab.T01
namespace Go.Proofs.Ytafpicjnccffgaa.Ab.T01
open Go Go.RowKit
set_option linter.unusedSimpArgs false
set_option linter.unusedVariables false
theorem pIter_hi (bend : Int) (L : List Sp) : ∀ (i k : Nat), i < k → k < L.length → nth (pIter bend L i) k = nth L k
  | 0, k, _, _ => rfl
  | i + 1, k, h, hk => by
    rw [pIter, nth_set _ _ _ _ (by rw [pIter_length]; exact hk), if_neg (by omega)]
    exact pIter_hi bend L i k (by omega) hk
theorem pIter_lo (bend : Int) (L : List Sp) (j : Nat) : ∀ (d : Nat), j < L.length → nth (pIter bend L (j + d)) j = nth (pIter bend L j) j
  | 0, _ => rfl
  | d + 1, h => by
    rw [← Nat.add_assoc, pIter, nth_set _ _ _ _ (by rw [pIter_length]; exact h), if_neg (by omega)]
    exact pIter_lo bend L j d h
/-- The span of a column as the pass goes over it. -/
def fwd (bend : Int) (L : List Sp) (j : Nat) : Sp := nth (pIter bend L j) j
theorem fwd_zero (bend : Int) (L : List Sp) : fwd bend L 0 = nth L 0 := rfl
theorem fwd_at {bend : Int} {L : List Sp} {j : Nat} : pAt bend (pIter bend L j) (j + 1) = meetS (nth (pIter bend L j) (j + 1)) ((fwd bend L j).1 - bend, (fwd bend L j).2 + bend) := rfl
theorem fwd_succ {bend : Int} {L : List Sp} {j : Nat} (h : j + 1 < L.length) : fwd bend L (j + 1) = meetS (nth L (j + 1)) ((fwd bend L j).1 - bend, (fwd bend L j).2 + bend) := by
  rw [← pIter_hi bend L j (j + 1) (by omega) h, ← fwd_at]
  unfold fwd
  rw [pIter, nth_set _ _ _ _ (by rw [pIter_length]; exact h), if_pos rfl]
theorem passOk_iff {bend : Int} {L : List Sp} : passOk bend L = true ↔ ∀ j, j + 1 < L.length → (fwd bend L (j + 1)).1 ≤ (fwd bend L (j + 1)).2 := by
  unfold passOk
  rw [List.all_eq_true]
  constructor
  · intro h j hj
    have := h j (List.mem_range.2 (by omega))
    rw [fwd_at, pIter_hi bend L j (j + 1) (by omega) hj, ← fwd_succ hj] at this
    simpa using this
  · intro h j hj
    have hj := List.mem_range.1 hj
    have := h j (by omega)
    rw [fwd_at, pIter_hi bend L j (j + 1) (by omega) (by omega), ← fwd_succ (by omega)]
    simpa using this
theorem pass_nth {bend : Int} {L : List Sp} {i : Nat} (h : i < L.length) : nth (pass bend L) i = fwd bend L (L.length - 1 - i) := by
  have e : nth (pass bend L) i = nth (pIter bend L (L.length - 1)) (L.length - 1 - i) := by
    unfold pass nth
    rw [List.getD_eq_getElem?_getD, List.getD_eq_getElem?_getD, List.getElem?_reverse (by rw [pIter_length]; exact h), pIter_length]
  rw [e]
  have := pIter_lo bend L (L.length - 1 - i) i (by omega)
  rw [show L.length - 1 - i + i = L.length - 1 by omega] at this
  exact this
theorem pass_length (bend : Int) (L : List Sp) : (pass bend L).length = L.length := by
  unfold pass
  rw [List.length_reverse, pIter_length]
/-- A span holds a height. -/
def inS (s : Sp) (h : Int) : Prop := s.1 ≤ h ∧ h ≤ s.2
theorem fwd_bound {bend : Int} {L : List Sp} (hok : Okl L) : ∀ {j : Nat}, j < L.length → 0 ≤ (fwd bend L j).1 ∧ (fwd bend L j).2 ≤ 300
  | 0, h => by
    have := hok _ (nth_mem h)
    rw [fwd_zero]
    omega
  | j + 1, h => by
    have := hok _ (nth_mem h)
    rw [fwd_succ h]
    constructor
    · show 0 ≤ max _ _; omega
    · show min _ _ ≤ 300; omega
theorem reach_mem {l : List Sp} {bend : Int} {j : Nat} {h : Int} (hr : reachB l bend j h = true) : inS (nth l j) h := by
  cases j with
  | zero => rw [reachB] at hr; simpa [inS] using hr
  | succ j =>
    rw [reachB] at hr
    simp only [Bool.and_eq_true, decide_eq_true_eq] at hr
    exact hr.1
theorem reach_succ {l : List Sp} {bend : Int} {j : Nat} {h : Int} : reachB l bend (j + 1) h = true ↔ inS (nth l (j + 1)) h ∧ ∃ k : Nat, k < 301 ∧ (h - bend ≤ (k : Int) ∧ (k : Int) ≤ h + bend) ∧ reachB l bend j k = true := by
  rw [reachB]
  simp only [Bool.and_eq_true, decide_eq_true_eq, List.any_eq_true, List.mem_range, inS]
theorem reach_fwd {bend : Int} {L : List Sp} (hok : Okl L) (hb : 0 ≤ bend) : ∀ {j : Nat}, j < L.length → (∀ i, i < j → (fwd bend L i).1 ≤ (fwd bend L i).2) → ∀ h : Int, reachB L bend j h = true ↔ inS (fwd bend L j) h
  | 0, _, _, h => by
    rw [reachB, fwd_zero]
    simp [inS]
  | j + 1, hj, hne, h => by
    have ih := reach_fwd hok hb (j := j) (by omega) (fun i hi => hne i (by omega))
    have hn := hne j (by omega)
    have hbd := fwd_bound (bend := bend) hok (j := j) (by omega)
    rw [reach_succ, fwd_succ hj]
    generalize fwd bend L j = F at *
    generalize nth L (j + 1) = S
    have e : inS (meetS S (F.1 - bend, F.2 + bend)) h ↔ inS S h ∧ F.1 - bend ≤ h ∧ h ≤ F.2 + bend := by
      unfold inS meetS
      simp only
      omega
    rw [e]
    constructor
    · rintro ⟨h1, k, hk, ⟨h2, h3⟩, h4⟩
      have h4 := (ih k).1 h4
      unfold inS at h4
      exact ⟨h1, by omega, by omega⟩
    · rintro ⟨h1, h2, h3⟩
      refine ⟨h1, (max F.1 (h - bend)).toNat, by omega, ⟨by omega, by omega⟩, (ih _).2 ?_⟩
      unfold inS
      omega
theorem rev_nth {L : List Sp} {j : Nat} (h : j < L.length) : nth L.reverse j = nth L (L.length - 1 - j) := by
  unfold nth
  rw [List.getD_eq_getElem?_getD, List.getD_eq_getElem?_getD, List.getElem?_reverse h]
theorem back_fwd {bend : Int} {L : List Sp} (hok : Okl L) (hb : 0 ≤ bend) (hp : passOk bend L = true) : ∀ {j : Nat}, j < L.length → (∀ i, i < j → (fwd bend (pass bend L) i).1 ≤ (fwd bend (pass bend L) i).2) → ∀ h : Int, (reachB L bend (L.length - 1 - j) h = true ∧ reachB L.reverse bend j h = true) ↔ inS (fwd bend (pass bend L) j) h
  | 0, hj, _, h => by
    have hF : ∀ i, i < L.length → (fwd bend L i).1 ≤ (fwd bend L i).2 := fun i hi => by
      cases i with
      | zero => have := hok _ (nth_mem hi); rw [fwd_zero]; omega
      | succ i => exact passOk_iff.1 hp i hi
    rw [fwd_zero, pass_nth hj]
    rw [reach_fwd hok hb (by omega) (fun i hi => hF i (by omega))]
    constructor
    · exact fun h => h.1
    · intro h1
      refine ⟨h1, ?_⟩
      have h2 := reach_mem ((reach_fwd hok hb (j := L.length - 1 - 0) (by omega) (fun i hi => hF i (by omega)) h).2 h1)
      rw [reachB, rev_nth hj]
      simpa [inS] using h2
  | j + 1, hj, hne, h => by
    have hF : ∀ i, i < L.length → (fwd bend L i).1 ≤ (fwd bend L i).2 := fun i hi => by
      cases i with
      | zero => have := hok _ (nth_mem hi); rw [fwd_zero]; omega
      | succ i => exact passOk_iff.1 hp i hi
    have ih := back_fwd hok hb hp (j := j) (by omega) (fun i hi => hne i (by omega))
    have hn := hne j (by omega)
    have hbd := fwd_bound (bend := bend) (L := pass bend L) (pass_ok hok hp).1 (j := j) (by rw [pass_length]; omega)
    have e0 : L.length - 1 - j = (L.length - 1 - (j + 1)) + 1 := by omega
    rw [fwd_succ (by rw [pass_length]; exact hj), pass_nth hj, reach_succ, rev_nth hj]
    have hrF := reach_fwd hok hb (j := L.length - 1 - (j + 1)) (by omega) (fun i hi => hF i (by omega)) h
    generalize fwd bend (pass bend L) j = G at *
    have e : inS (meetS (fwd bend L (L.length - 1 - (j + 1))) (G.1 - bend, G.2 + bend)) h ↔ inS (fwd bend L (L.length - 1 - (j + 1))) h ∧ G.1 - bend ≤ h ∧ h ≤ G.2 + bend := by
      unfold inS meetS
      simp only
      omega
    rw [e]
    constructor
    · rintro ⟨h1, h2, k, hk, ⟨h3, h4⟩, h5⟩
      have hk2 : reachB L bend (L.length - 1 - j) k = true := by
        rw [e0, reach_succ, ← e0]
        have hh := reach_mem h1
        have hb2 := hok _ (nth_mem (l := L) (i := L.length - 1 - (j + 1)) (by omega))
        unfold inS at hh
        refine ⟨?_, h.toNat, by omega, ⟨by omega, by omega⟩, by rw [show ((h.toNat : Nat) : Int) = h by omega]; exact h1⟩
        have := reach_mem h5
        rw [rev_nth (by omega)] at this
        exact this
      have := (ih k).1 ⟨hk2, h5⟩
      unfold inS at this
      exact ⟨hrF.1 h1, by omega, by omega⟩
    · rintro ⟨h1, h2, h3⟩
      have h4 := (ih (max G.1 (h - bend))).2 (by unfold inS; omega)
      refine ⟨hrF.2 h1, reach_mem (hrF.2 h1), (max G.1 (h - bend)).toNat, by omega, ⟨by omega, by omega⟩, ?_⟩
      rw [show (((max G.1 (h - bend)).toNat : Nat) : Int) = max G.1 (h - bend) by omega]
      exact h4.2
theorem scanB_none {g : Int → Bool} : ∀ {n : Nat}, (∀ h : Nat, h < n → g h = false) → scanB g n = (false, 0, 0)
  | 0, _ => rfl
  | n + 1, h => by
    rw [scanB, if_neg (by rw [h n (by omega)]; simp)]
    exact scanB_none fun k hk => h k (by omega)
theorem scanB_some {g : Int → Bool} {a b : Nat} (hg : ∀ h : Nat, g h = true ↔ a ≤ h ∧ h ≤ b) : ∀ {n : Nat}, a < n → a ≤ b → scanB g n = (true, (a : Int), ((min b (n - 1) : Nat) : Int))
  | 0, h, _ => by omega
  | n + 1, h, hab => by
    rw [scanB]
    by_cases h1 : n = a
    · have hn : scanB g n = (false, 0, 0) := scanB_none fun k hk => by
        cases hgk : g k with
        | false => rfl
        | true => have := (hg k).1 hgk; omega
      rw [if_pos ((hg n).2 (by omega)), hn]
      simp
      omega
    · have ih := scanB_some hg (n := n) (by omega) hab
      rw [ih]
      by_cases h2 : n ≤ b
      · rw [if_pos ((hg n).2 (by omega))]
        simp
        omega
      · rw [if_neg (by rw [hg n]; omega)]
        simp
        omega
theorem fwd_first {bend : Int} {L : List Sp} (hok : Okl L) : ∀ {m : Nat}, m < L.length → ¬ (∀ j, j < m → (fwd bend L (j + 1)).1 ≤ (fwd bend L (j + 1)).2) → ∃ j, j < L.length ∧ (∀ i, i < j → (fwd bend L i).1 ≤ (fwd bend L i).2) ∧ (fwd bend L j).2 < (fwd bend L j).1
  | 0, _, h => (h fun j hj => by omega).elim
  | m + 1, hm, h => by
    by_cases h1 : ∀ j, j < m → (fwd bend L (j + 1)).1 ≤ (fwd bend L (j + 1)).2
    · refine ⟨m + 1, hm, fun i hi => ?_, ?_⟩
      · cases i with
        | zero => have := hok _ (nth_mem (l := L) (i := 0) (by omega)); rw [fwd_zero]; omega
        | succ i => exact h1 i (by omega)
      · have : ¬ (fwd bend L (m + 1)).1 ≤ (fwd bend L (m + 1)).2 := fun hc => h fun j hj => by
          by_cases e : j = m
          · subst e; exact hc
          · exact h1 j (by omega)
        omega
    · exact fwd_first hok (by omega) h1
theorem curveR_eq {l : List Sp} {bend : Int} (hok : Okl l) (hb : 0 ≤ bend) : curveR l bend = (bentS bend l).getD [] := by
  by_cases hl : l.length = 0
  · have : l = [] := List.eq_nil_of_length_eq_zero hl
    subst this
    rfl
  have hempty : ∀ {i : Nat}, i < l.length → (∀ h : Nat, h < 301 → bothB l bend i h = false) → curveR l bend = [] := fun {i} hi h => curveR_bad hi (by rw [scanB_none h])
  by_cases hp : passOk bend l = true
  · have hok2 := (pass_ok hok hp).1
    by_cases hp2 : passOk bend (pass bend l) = true
    · have hb1 : bentS bend l = some (pass bend (pass bend l)) := by unfold bentS; rw [hp, hp2]; rfl
      rw [hb1, Option.getD_some]
      have hG : ∀ i, i < l.length → (fwd bend (pass bend l) i).1 ≤ (fwd bend (pass bend l) i).2 := fun i hi => by
        cases i with
        | zero => have := hok2 _ (nth_mem (l := pass bend l) (i := 0) (by rw [pass_length]; exact hi)); rw [fwd_zero]; omega
        | succ i => exact passOk_iff.1 hp2 i (by rw [pass_length]; exact hi)
      have key : ∀ i, i < l.length → scanB (bothB l bend i) 301 = (true, fwd bend (pass bend l) (l.length - 1 - i)) := fun i hi => by
        have hbf := back_fwd hok hb hp (j := l.length - 1 - i) (by omega) (fun k hk => hG k (by omega))
        have hbd := fwd_bound (bend := bend) hok2 (j := l.length - 1 - i) (by rw [pass_length]; omega)
        have hne := hG (l.length - 1 - i) (by omega)
        rw [show l.length - 1 - (l.length - 1 - i) = i by omega] at hbf
        generalize fwd bend (pass bend l) (l.length - 1 - i) = G at *
        have := scanB_some (g := bothB l bend i) (a := G.1.toNat) (b := G.2.toNat) (fun h => by
          have := hbf h
          unfold bothB
          rw [Bool.and_eq_true, this]
          unfold inS
          omega) (n := 301) (by omega) (by omega)
        rw [this]
        refine Prod.ext rfl (Prod.ext ?_ ?_)
        · show ((G.1.toNat : Nat) : Int) = G.1; omega
        · show ((min G.2.toNat (301 - 1) : Nat) : Int) = G.2; omega
      rw [curveR_good fun i hi => by rw [key i hi]]
      refine list_ext (by rw [List.length_map, List.length_range, pass_length, pass_length]) fun i hi => ?_
      have hi : i < l.length := by simpa using hi
      rw [nth_range hi, pass_nth (by rw [pass_length]; exact hi), pass_length]
      unfold colR
      rw [key i hi]
    · have hb1 : bentS bend l = none := by
        unfold bentS
        rw [if_neg]
        simp [hp2]
      rw [hb1, Option.getD_none]
      obtain ⟨j, hj, h1, h2⟩ := fwd_first (bend := bend) hok2 (m := l.length - 1) (by rw [pass_length]; omega) (fun h => hp2 (passOk_iff.2 fun j hj => h j (by rw [pass_length] at hj; omega)))
      rw [pass_length] at hj
      refine hempty (i := l.length - 1 - j) (by omega) fun h _ => ?_
      have := back_fwd hok hb hp (j := j) hj h1 h
      unfold bothB
      rw [show l.length - 1 - (l.length - 1 - j) = j by omega, Bool.and_eq_false_iff]
      by_cases h3 : reachB l bend (l.length - 1 - j) h = true ∧ reachB l.reverse bend j h = true
      · have := this.1 h3
        unfold inS at this
        omega
      · rcases Classical.em (reachB l bend (l.length - 1 - j) h = true) with h4 | h4
        · right
          simpa using fun h5 => h3 ⟨h4, h5⟩
        · left
          simpa using h4
  · have hb1 : bentS bend l = none := by
      unfold bentS
      rw [if_neg]
      simp [hp]
    rw [hb1, Option.getD_none]
    obtain ⟨j, hj, h1, h2⟩ := fwd_first (bend := bend) hok (m := l.length - 1) (by omega) (fun h => hp (passOk_iff.2 fun j hj => h j (by omega)))
    refine hempty hj fun h _ => ?_
    have := reach_fwd hok hb hj h1 h
    unfold bothB
    have h3 : reachB l bend j h = false := by
      cases hr : reachB l bend j h with
      | false => rfl
      | true =>
        have := this.1 hr
        unfold inS at this
        omega
    rw [h3]
    rfl
end Go.Proofs.Ytafpicjnccffgaa.Ab.T01
