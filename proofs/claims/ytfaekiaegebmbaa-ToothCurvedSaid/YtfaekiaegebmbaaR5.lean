/- The reference: what an edge can be in all truths. -/
import Derived.Test.YtfaekiaegebmbaaR4
namespace Go.Proofs.Ytfaekiaegebmbaa.Ab.T01
open Go Go.RowKit
set_option linter.unusedSimpArgs false
set_option linter.unusedVariables false
set_option maxRecDepth 100000
/-- Some height beneath h; the first one, and the last one. -/
def scanB (g : Int → Bool) : Nat → Bool × Int × Int
  | 0 => (false, 0, 0)
  | h + 1 => if g h then (true, if (scanB g h).1 then (scanB g h).2.1 else h, h) else scanB g h
def bothB (l : List Sp) (bend : Int) (i : Nat) (h : Int) : Bool := reachB l bend i h && reachB l.reverse bend (l.length - 1 - i) h
def colR (l : List Sp) (bend : Int) (i : Nat) : Sp := (scanB (bothB l bend i) 301).2
def curveR (l : List Sp) (bend : Int) : List Sp := if ((List.range l.length).all fun i => (scanB (bothB l bend i) 301).1) = true then (List.range l.length).map (colR l bend) else []
theorem curveR_bad {l : List Sp} {bend : Int} {i : Nat} (hi : i < l.length) (h : (scanB (bothB l bend i) 301).1 = false) : curveR l bend = [] := by
  unfold curveR
  rw [if_neg]
  intro hc
  have := List.all_eq_true.1 hc i (List.mem_range.2 hi)
  rw [h] at this
  cases this
theorem curveR_good {l : List Sp} {bend : Int} (h : ∀ i, i < l.length → (scanB (bothB l bend i) 301).1 = true) : curveR l bend = (List.range l.length).map (colR l bend) := by
  unfold curveR
  rw [if_pos]
  exact List.all_eq_true.2 fun i hi => h i (List.mem_range.1 hi)
theorem refCurve_spec (l : List Sp) (bend : Int) (hl : l.length < 1000) (hok : Okl l) (hb : 0 ≤ bend ∧ bend ≤ 300) : SpecF Try.prog 60 [.sl 2 (l.map spR), .v (.int .i64 bend)] (.sl 2 ((curveR l bend).map spR)) [] := by
  refine SpecG.frz (r := .ob 0 (curveR l bend).length) (objs := [.row 44 2 ((curveR l bend).map spR) false]) ?_
  have hokr : Okl l.reverse := fun s hs => hok s (List.mem_reverse.1 hs)
  have hlr : l.reverse.length = l.length := List.length_reverse
  refine spec_go (N := 66) (rs := [.tmp 4]) (eq := eqs) rfl rfl fun_60 rfl (by kernel_rfl) (by kernel_rfl) (by simp) (by simp) (by simp) (by simp) fun R hR => ?_
  simp (maxSteps := 2000000) only [vcA, ↓vcP, ↓reduceIte, reduceCtorEq, Nat.reduceAdd, Nat.reduceMul, Nat.reduceSub, Nat.reduceLT, Nat.reduceLeDiff, Nat.reduceEqDiff, Nat.reduceBEq, Nat.reduceBNe, Nat.reduceGT, Nat.reduceDiv, Nat.reduceMod, Int.reduceAdd, Int.reduceSub, Int.reduceNeg, Int.reduceLT, Int.reduceLE, Int.reduceEq, Int.reduceToNat, fA]
  refine onF_data (reach_spec l bend hl hok hb) ?_ ?_
  · simp (maxSteps := 2000000) only [okA, ↓okP, Nat.reduceAdd, Nat.reduceMul, Nat.reduceSub, Nat.reduceLT, Nat.reduceLeDiff, Nat.reduceEqDiff, Nat.reduceBEq, ↓reduceIte, reduceCtorEq]
  simp (maxSteps := 2000000) only [vcA, ↓vcP, ↓reduceIte, reduceCtorEq, Nat.reduceAdd, Nat.reduceMul, Nat.reduceSub, Nat.reduceLT, Nat.reduceLeDiff, Nat.reduceEqDiff, Nat.reduceBEq, Nat.reduceBNe, Nat.reduceGT, Nat.reduceDiv, Nat.reduceMod, Int.reduceAdd, Int.reduceSub, Int.reduceNeg, Int.reduceLT, Int.reduceLE, Int.reduceEq, Int.reduceToNat, fA]
  refine onF_data (turned_spec l (by omega)) ?_ ?_
  · simp (maxSteps := 2000000) only [okA, ↓okP, Nat.reduceAdd, Nat.reduceMul, Nat.reduceSub, Nat.reduceLT, Nat.reduceLeDiff, Nat.reduceEqDiff, Nat.reduceBEq, ↓reduceIte, reduceCtorEq]
  simp (maxSteps := 2000000) only [vcA, ↓vcP, ↓reduceIte, reduceCtorEq, Nat.reduceAdd, Nat.reduceMul, Nat.reduceSub, Nat.reduceLT, Nat.reduceLeDiff, Nat.reduceEqDiff, Nat.reduceBEq, Nat.reduceBNe, Nat.reduceGT, Nat.reduceDiv, Nat.reduceMod, Int.reduceAdd, Int.reduceSub, Int.reduceNeg, Int.reduceLT, Int.reduceLE, Int.reduceEq, Int.reduceToNat, fA]
  have hr2 := reach_spec l.reverse bend (by omega) hokr hb
  rw [hlr] at hr2
  refine onF_data hr2 ?_ ?_
  · simp (maxSteps := 2000000) only [okA, ↓okP, Nat.reduceAdd, Nat.reduceMul, Nat.reduceSub, Nat.reduceLT, Nat.reduceLeDiff, Nat.reduceEqDiff, Nat.reduceBEq, ↓reduceIte, reduceCtorEq]
  simp (maxSteps := 2000000) only [vcA, ↓vcP, ↓reduceIte, reduceCtorEq, Nat.reduceAdd, Nat.reduceMul, Nat.reduceSub, Nat.reduceLT, Nat.reduceLeDiff, Nat.reduceEqDiff, Nat.reduceBEq, Nat.reduceBNe, Nat.reduceGT, Nat.reduceDiv, Nat.reduceMod, Int.reduceAdd, Int.reduceSub, Int.reduceNeg, Int.reduceLT, Int.reduceLE, Int.reduceEq, Int.reduceToNat, fA]
  refine goC_loop (α := {i : Nat // i ≤ l.length ∧ ∀ j, j < i → (scanB (bothB l bend j) 301).1 = true}) (fun x => ⟨[(0, .sl 2 (l.map spR)), (5, .sl 1 ((List.range l.length).map (reachR l bend))), (6, .sl 1 ((List.range l.length).map (reachR l.reverse bend))), (7, .ob 112 x.1), (8, .v (.int .i64 x.1))], [(112, .row 44 2 (((List.range x.1).map (colR l bend)).map spR) false)]⟩) (fun x => l.length - x.1) ⟨0, by omega, by omega⟩ [some 72] ?_ ?_
  · simp (maxSteps := 2000000) only [enA, ↓enP, Nat.reduceAdd, Nat.reduceMul, Nat.reduceSub, Nat.reduceLT, Nat.reduceLeDiff, Nat.reduceEqDiff, Nat.reduceBEq, ↓reduceIte, reduceCtorEq, fA]
    exact ⟨rfl, rfl⟩
  intro x B hB
  obtain ⟨i, hi, hg⟩ := x
  by_cases hc : i < l.length
  · have qc : (i < l.length) = True := eq_true hc
    have e3 : IntKind.i64.wrap ((i : Int) + 1) = ((i + 1 : Nat) : Int) := wrap_id (by omega) (by omega)
    have hri : ∀ j, j < l.length → nth (List.range l.length) j = j := fun j hj => by
      have := nth_range (n := l.length) (f := id) (k := j) hj
      simpa using this
    simp (maxSteps := 2000000) only [vcA, ↓vcP, ↓reduceIte, reduceCtorEq, Nat.reduceAdd, Nat.reduceMul, Nat.reduceSub, Nat.reduceLT, Nat.reduceLeDiff, Nat.reduceEqDiff, Nat.reduceBEq, Nat.reduceBNe, Nat.reduceGT, Nat.reduceDiv, Nat.reduceMod, Int.reduceAdd, Int.reduceSub, Int.reduceNeg, Int.reduceLT, Int.reduceLE, Int.reduceEq, Int.reduceToNat, fA, qc, e3]
    refine goC_loop (α := {h : Nat // h ≤ 301}) (fun x => ⟨[(0, .sl 2 (l.map spR)), (5, .sl 1 ((List.range l.length).map (reachR l bend))), (6, .sl 1 ((List.range l.length).map (reachR l.reverse bend))), (7, .ob 112 i), (8, .v (.int .i64 i)), (9, .ptr 184 0), (10, .v (.bool (scanB (bothB l bend i) x.1).1)), (11, .v (.int .i64 x.1))], [(112, .row 44 2 (((List.range i).map (colR l bend)).map spR) false), (184, .box 44 [.v (.int .i64 (scanB (bothB l bend i) x.1).2.1), .v (.int .i64 (scanB (bothB l bend i) x.1).2.2)])]⟩) (fun x => 301 - x.1) ⟨0, by omega⟩ [] ?_ ?_
    · simp (maxSteps := 2000000) only [enA, ↓enP, Nat.reduceAdd, Nat.reduceMul, Nat.reduceSub, Nat.reduceLT, Nat.reduceLeDiff, Nat.reduceEqDiff, Nat.reduceBEq, ↓reduceIte, reduceCtorEq, fA]
      exact ⟨⟨rfl, rfl⟩, rfl, rfl⟩
    intro x B2 hB2
    obtain ⟨h, hh⟩ := x
    by_cases hc2 : h < 301
    · have q2 : ((h : Int) ≤ 300) = True := eq_true (by omega)
      have e4 : IntKind.i64.wrap ((h : Int) + 1) = ((h + 1 : Nat) : Int) := wrap_id (by omega) (by omega)
      have e5 : IntKind.i64.wrap ((l.length : Int) - 1) = (l.length : Int) - 1 := wrap_id (by omega) (by omega)
      have e6 : IntKind.i64.wrap ((l.length : Int) - 1 - i) = ((l.length - 1 - i : Nat) : Int) := by rw [wrap_id (by omega) (by omega)]; omega
      have q301 : (h < 301) = True := eq_true (by omega)
      have qn : (l.length - 1 - i < l.length) = True := eq_true (by omega)
      have n1 := hri i hc
      have n2 := hri (l.length - 1 - i) (by omega)
      have n3 : nth (rowB (reachB l bend i)) h = reachB l bend i h := rowB_nth (by omega)
      have n4 : nth (rowB (reachB l.reverse bend (l.length - 1 - i))) h = reachB l.reverse bend (l.length - 1 - i) h := rowB_nth (by omega)
      have hs : scanB (bothB l bend i) (h + 1) = if bothB l bend i h then (true, if (scanB (bothB l bend i) h).1 then (scanB (bothB l bend i) h).2.1 else (h : Int), (h : Int)) else scanB (bothB l bend i) h := rfl
      simp (maxSteps := 2000000) only [vcA, ↓vcP, ↓reduceIte, reduceCtorEq, Nat.reduceAdd, Nat.reduceMul, Nat.reduceSub, Nat.reduceLT, Nat.reduceLeDiff, Nat.reduceEqDiff, Nat.reduceBEq, Nat.reduceBNe, Nat.reduceGT, Nat.reduceDiv, Nat.reduceMod, Int.reduceAdd, Int.reduceSub, Int.reduceNeg, Int.reduceLT, Int.reduceLE, Int.reduceEq, Int.reduceToNat, fA, qc, e3, e4, e5, e6, q2, q301, qn, n1, n2, n3, n4, reachR, rowR, bR, rowB_length, List.length_range]
      have skip : bothB l bend i h = false → scanB (bothB l bend i) (h + 1) = scanB (bothB l bend i) h := fun he => by rw [hs, he]; rfl
      refine ⟨by omega, fun _ => ⟨fun g1 => ⟨by omega, fun _ => ⟨fun g2 => hB2 _ ⟨h + 1, by omega⟩ [] (by simp only; omega) rfl ?_, fun g2 => ⟨fun g3 => hB2 _ ⟨h + 1, by omega⟩ [] (by simp only; omega) rfl ?_, fun g3 => hB2 _ ⟨h + 1, by omega⟩ [] (by simp only; omega) rfl ?_⟩⟩⟩, fun g1 => hB2 _ ⟨h + 1, by omega⟩ [] (by simp only; omega) rfl ?_⟩⟩
      · rw [skip (by simp at g2; simp [bothB, g2])]
        simp (maxSteps := 2000000) only [enA, ↓enP, Nat.reduceAdd, Nat.reduceMul, Nat.reduceSub, Nat.reduceLT, Nat.reduceLeDiff, Nat.reduceEqDiff, Nat.reduceBEq, ↓reduceIte, reduceCtorEq, fA]
      · have he : bothB l bend i h = true := by simp at g1 g2; simp [bothB, g1, g2]
        have g3 : (scanB (bothB l bend i) h).1 = false := by simpa using g3
        rw [hs, he, g3]
        simp (maxSteps := 2000000) only [enA, ↓enP, Nat.reduceAdd, Nat.reduceMul, Nat.reduceSub, Nat.reduceLT, Nat.reduceLeDiff, Nat.reduceEqDiff, Nat.reduceBEq, ↓reduceIte, reduceCtorEq, fA]
        trace_state
      · have he : bothB l bend i h = true := by simp at g1 g2; simp [bothB, g1, g2]
        have g3 : (scanB (bothB l bend i) h).1 = true := by simpa using g3
        rw [hs, he, g3]
        simp (maxSteps := 2000000) only [enA, ↓enP, Nat.reduceAdd, Nat.reduceMul, Nat.reduceSub, Nat.reduceLT, Nat.reduceLeDiff, Nat.reduceEqDiff, Nat.reduceBEq, ↓reduceIte, reduceCtorEq, fA]
        trace_state
      · rw [skip (by simp at g1; simp [bothB, g1])]
        simp (maxSteps := 2000000) only [enA, ↓enP, Nat.reduceAdd, Nat.reduceMul, Nat.reduceSub, Nat.reduceLT, Nat.reduceLeDiff, Nat.reduceEqDiff, Nat.reduceBEq, ↓reduceIte, reduceCtorEq, fA]
    · have q2 : ((h : Int) ≤ 300) = False := eq_false (by omega)
      have : h = 301 := by omega
      subst this
      simp (maxSteps := 2000000) only [vcA, ↓vcP, ↓reduceIte, reduceCtorEq, Nat.reduceAdd, Nat.reduceMul, Nat.reduceSub, Nat.reduceLT, Nat.reduceLeDiff, Nat.reduceEqDiff, Nat.reduceBEq, Nat.reduceBNe, Nat.reduceGT, Nat.reduceDiv, Nat.reduceMod, Int.reduceAdd, Int.reduceSub, Int.reduceNeg, Int.reduceLT, Int.reduceLE, Int.reduceEq, Int.reduceToNat, fA, q2]
      have hrl : (List.range i).length + 1 ≤ 1000 := by rw [List.length_range]; omega
      refine ⟨fun g1 => hR _ (fin_of1 [none] ?_), fun g1 => ⟨⟨by omega, by simp only [maxLen]; omega⟩, fun _ => hB _ ⟨i + 1, by omega, fun j hj => ?_⟩ [some 304] (by simp only; omega) rfl ?_⟩⟩
      · rw [curveR_bad hc (by simpa using g1)]
        simp (maxSteps := 2000000) only [enA, ↓enP, Nat.reduceAdd, Nat.reduceMul, Nat.reduceSub, Nat.reduceLT, Nat.reduceLeDiff, Nat.reduceEqDiff, Nat.reduceBEq, ↓reduceIte, reduceCtorEq, fA]
      · by_cases e : j = i
        · subst e; simpa using g1
        · exact hg j (by omega)
      · simp (maxSteps := 2000000) only [enA, ↓enP, Nat.reduceAdd, Nat.reduceMul, Nat.reduceSub, Nat.reduceLT, Nat.reduceLeDiff, Nat.reduceEqDiff, Nat.reduceBEq, ↓reduceIte, reduceCtorEq, fA]
        rw [List.length_range, e3, List.range_succ, List.map_append, List.map_append]
        exact ⟨⟨rfl, rfl⟩, rfl⟩
  · have qc : (i < l.length) = False := eq_false hc
    have : i = l.length := by omega
    subst this
    simp (maxSteps := 2000000) only [vcA, ↓vcP, ↓reduceIte, reduceCtorEq, Nat.reduceAdd, Nat.reduceMul, Nat.reduceSub, Nat.reduceLT, Nat.reduceLeDiff, Nat.reduceEqDiff, Nat.reduceBEq, Nat.reduceBNe, Nat.reduceGT, Nat.reduceDiv, Nat.reduceMod, Int.reduceAdd, Int.reduceSub, Int.reduceNeg, Int.reduceLT, Int.reduceLE, Int.reduceEq, Int.reduceToNat, fA, qc]
    refine hR _ (fin_of1 [some 112] ?_)
    rw [curveR_good hg]
    simp (maxSteps := 2000000) only [enA, ↓enP, Nat.reduceAdd, Nat.reduceMul, Nat.reduceSub, Nat.reduceLT, Nat.reduceLeDiff, Nat.reduceEqDiff, Nat.reduceBEq, ↓reduceIte, reduceCtorEq, fA]
    simp
end Go.Proofs.Ytfaekiaegebmbaa.Ab.T01
