/- Contracts of the outworkers' functions: where a stuff lies; of whom it is least known; what was moved. Contracts of the outworkers' functions: what was moved; the least; what must be given; what a count can be. Contracts of the outworkers' functions: what must be given; what a count can be. -/
import Derived.Test.YtninkfpeeemcoaaZO5
namespace Go.Proofs.Ytninkfpeeemcoaa.Ab.T07
open Go Go.RowKit
set_option linter.unusedVariables false
set_option linter.unusedSimpArgs false
set_option maxRecDepth 100000
abbrev ac0 (h : Hs) (b : List En) (w s : Int) : Ac := acc h b w s nof
def homeN (h : Hs) (b : List En) (s : Int) : Nat → Sp
  | 0 => (0, 0)
  | n + 1 => ((homeN h b s n).1 + (has (acc h b n s nof)).1, (homeN h b s n).2 + (has (acc h b n s nof)).2)
def infansN (h : Hs) (b : List En) (s : Int) : Nat → Sp
  | 0 => (0, 0)
  | n + 1 => ((infansN h b s n).1 + (acc h b n s nof).f1, (infansN h b s n).2 + min (acc h b n s nof).f2 ((acc h b n s nof).o2 - (acc h b n s nof).b1))
def lostN (h : Hs) (b : List En) (s : Int) : Nat → Sp
  | 0 => (0, 0)
  | n + 1 => ((lostN h b s n).1 + 0, (lostN h b s n).2 + min (loss (acc h b n s nof) (acc h b n s nof).o2) (high (acc h b n s nof)))
theorem high_bd {a : Ac} (ha : a.Bd 12) : -7201200 ≤ high a ∧ high a ≤ 1201200 := by
  obtain ⟨h1, h2, h3, h4⟩ := ha
  unfold high
  omega
theorem homeN_bd {h : Hs} {b : List En} (hb : Ok h b) {s : Int} (hs : 0 ≤ s ∧ s < h.tk.length) : ∀ n : Nat, -10000000 * (n : Int) ≤ (homeN h b s n).1 ∧ (homeN h b s n).1 ≤ 10000000 * n ∧ -10000000 * (n : Int) ≤ (homeN h b s n).2 ∧ (homeN h b s n).2 ≤ 10000000 * n
  | 0 => by simp [homeN]
  | n + 1 => by
    have i := homeN_bd hb hs n
    have g := has_bd (acc_bd hb (w := n) hs nof)
    simp only [homeN]
    omega
theorem infansN_bd {h : Hs} {b : List En} (hb : Ok h b) {s : Int} (hs : 0 ≤ s ∧ s < h.tk.length) : ∀ n : Nat, -10000000 * (n : Int) ≤ (infansN h b s n).1 ∧ (infansN h b s n).1 ≤ 10000000 * n ∧ -10000000 * (n : Int) ≤ (infansN h b s n).2 ∧ (infansN h b s n).2 ≤ 10000000 * n
  | 0 => by simp [infansN]
  | n + 1 => by
    have i := infansN_bd hb hs n
    obtain ⟨h1, h2, h3, h4⟩ := acc_bd hb (w := n) hs nof
    simp only [infansN]
    omega
theorem lostN_bd {h : Hs} {b : List En} (hb : Ok h b) {s : Int} (hs : 0 ≤ s ∧ s < h.tk.length) : ∀ n : Nat, -10000000 * (n : Int) ≤ (lostN h b s n).1 ∧ (lostN h b s n).1 ≤ 10000000 * n ∧ -10000000 * (n : Int) ≤ (lostN h b s n).2 ∧ (lostN h b s n).2 ≤ 10000000 * n
  | 0 => by simp [lostN]
  | n + 1 => by
    have i := lostN_bd hb hs n
    have ha := acc_bd hb (w := n) hs nof
    have g := high_bd ha
    have l := loss_bd ha (n := (acc h b n s nof).o2) (by have := ha.o; omega)
    simp only [lostN]
    omega
def liesErr (h : Hs) (b : List En) (s : Int) : Int := if openErr h b ≠ 0 then openErr h b else if isStuff h s then 0 else 6
def liesR (h : Hs) (b : List En) (s : Int) : Sp × Sp × Sp := if liesErr h b s = 0 then (homeN h b s 6, infansN h b s 6, lostN h b s 6) else ((0, 0), (0, 0), (0, 0))
set_option maxHeartbeats 4000000 in
theorem lies_spec (h : Hs) (b : List En) (s : Int) (h1 : h.tk.length < 1000000) (h2 : h.lo.length < 1000000) (h3 : b.length < 1000000) : SpecF Try.prog 16 [.agg [.v (.int .i64 h.sc), .sl 2 (h.tk.map spR), .sl 1 (h.lo.map iR)], .sl 4 (b.map enR), .v (.int .i64 s)]
    (.tup [.agg [.v (.int .i64 (liesR h b s).1.1), .v (.int .i64 (liesR h b s).1.2)], .agg [.v (.int .i64 (liesR h b s).2.1.1), .v (.int .i64 (liesR h b s).2.1.2)], .agg [.v (.int .i64 (liesR h b s).2.2.1), .v (.int .i64 (liesR h b s).2.2.2)], .v (.int .i64 (liesErr h b s))]) [] := by
  refine spec_go (N := 77) (rs := [.cell 6 47, .cell 7 47, .cell 8 47, .tmp 9]) (eq := eqs) rfl rfl fun_16 rfl (by kernel_rfl) (by kernel_rfl) (by simp) (by simp) (by simp) (by simp) fun R hR => ?_
  simp (maxSteps := 2000000) only [vcA, ↓vcP, ↓reduceIte, reduceCtorEq, Nat.reduceAdd, Nat.reduceMul, Nat.reduceSub, Nat.reduceLT, Nat.reduceLeDiff, Nat.reduceEqDiff, Nat.reduceBEq, Nat.reduceBNe, Nat.reduceGT, Nat.reduceDiv, Nat.reduceMod, Int.reduceAdd, Int.reduceSub, Int.reduceNeg, Int.reduceLT, Int.reduceLE, Int.reduceEq, Int.reduceToNat, fA]
  refine onF_data (open_spec h b h1 h2 h3) ?_ ?_
  · simp (maxSteps := 2000000) only [okA, ↓okP, Nat.reduceAdd, Nat.reduceMul, Nat.reduceSub, Nat.reduceLT, Nat.reduceLeDiff, Nat.reduceEqDiff, Nat.reduceBEq, ↓reduceIte, reduceCtorEq]
  by_cases hc : openErr h b ≠ 0
  · have bn : (openErr h b != 0) = true := by simpa using hc
    have e : liesErr h b s = openErr h b := by unfold liesErr; rw [if_pos hc]
    have e2 : liesR h b s = ((0, 0), (0, 0), (0, 0)) := by unfold liesR; rw [e, if_neg hc]
    simp (maxSteps := 2000000) only [vcA, ↓vcP, ↓reduceIte, reduceCtorEq, Nat.reduceAdd, Nat.reduceMul, Nat.reduceSub, Nat.reduceLT, Nat.reduceLeDiff, Nat.reduceEqDiff, Nat.reduceBEq, Nat.reduceBNe, Nat.reduceGT, Nat.reduceDiv, Nat.reduceMod, Int.reduceAdd, Int.reduceSub, Int.reduceNeg, Int.reduceLT, Int.reduceLE, Int.reduceEq, Int.reduceToNat, fA, bn]
    repeat (first | refine ⟨by kernel_rfl, ?_⟩ | refine ⟨⟨by kernel_rfl, by kernel_rfl⟩, ?_⟩ | refine ⟨⟨by kernel_rfl, by kernel_rfl, by kernel_rfl⟩, ?_⟩ | refine ⟨⟨by kernel_rfl, by kernel_rfl, by kernel_rfl, by kernel_rfl⟩, ?_⟩ | refine ⟨⟨by kernel_rfl, by kernel_rfl, by kernel_rfl, by kernel_rfl, by kernel_rfl⟩, ?_⟩ | refine ⟨⟨by kernel_rfl, by kernel_rfl, by kernel_rfl, by kernel_rfl, by kernel_rfl, by kernel_rfl⟩, ?_⟩ | refine ⟨⟨by kernel_rfl, by kernel_rfl, by kernel_rfl, by kernel_rfl, by kernel_rfl, by kernel_rfl, by kernel_rfl⟩, ?_⟩ | refine ⟨⟨by kernel_rfl, by kernel_rfl, by kernel_rfl, by kernel_rfl, by kernel_rfl, by kernel_rfl, by kernel_rfl, by kernel_rfl⟩, ?_⟩ | refine ⟨⟨by kernel_rfl, by kernel_rfl, by kernel_rfl, by kernel_rfl, by kernel_rfl, by kernel_rfl, by kernel_rfl, by kernel_rfl, by kernel_rfl⟩, ?_⟩ | refine ⟨⟨by kernel_rfl, by kernel_rfl, by kernel_rfl, by kernel_rfl, by kernel_rfl, by kernel_rfl, by kernel_rfl, by kernel_rfl, by kernel_rfl, by kernel_rfl⟩, ?_⟩ | refine ⟨⟨by kernel_rfl, by kernel_rfl, by kernel_rfl, by kernel_rfl, by kernel_rfl, by kernel_rfl, by kernel_rfl, by kernel_rfl, by kernel_rfl, by kernel_rfl, by kernel_rfl⟩, ?_⟩ | refine ⟨⟨by kernel_rfl, by kernel_rfl, by kernel_rfl, by kernel_rfl, by kernel_rfl, by kernel_rfl, by kernel_rfl, by kernel_rfl, by kernel_rfl, by kernel_rfl, by kernel_rfl, by kernel_rfl⟩, ?_⟩ | refine ⟨⟨by kernel_rfl, by kernel_rfl, by kernel_rfl, by kernel_rfl, by kernel_rfl, by kernel_rfl, by kernel_rfl, by kernel_rfl, by kernel_rfl, by kernel_rfl, by kernel_rfl, by kernel_rfl, by kernel_rfl⟩, ?_⟩)
    refine hR _ (fin_of0 ?_)
    rw [e, e2]
    simp (maxSteps := 2000000) only [enA, ↓enP, Nat.reduceAdd, Nat.reduceMul, Nat.reduceSub, Nat.reduceLT, Nat.reduceLeDiff, Nat.reduceEqDiff, Nat.reduceBEq, ↓reduceIte, reduceCtorEq, fA]
  have hc : openErr h b = 0 := by simpa using hc
  obtain ⟨hb, htr⟩ := open_ok hc
  have hlen := hb.hs.tk
  have bn : ((0 : Int) != 0) = false := rfl
  rw [hc]
  simp (maxSteps := 2000000) only [vcA, ↓vcP, ↓reduceIte, reduceCtorEq, Nat.reduceAdd, Nat.reduceMul, Nat.reduceSub, Nat.reduceLT, Nat.reduceLeDiff, Nat.reduceEqDiff, Nat.reduceBEq, Nat.reduceBNe, Nat.reduceGT, Nat.reduceDiv, Nat.reduceMod, Int.reduceAdd, Int.reduceSub, Int.reduceNeg, Int.reduceLT, Int.reduceLE, Int.reduceEq, Int.reduceToNat, fA, bn]
  refine onF_data (isStuff_spec h s h1) ?_ ?_
  · simp (maxSteps := 2000000) only [okA, ↓okP, Nat.reduceAdd, Nat.reduceMul, Nat.reduceSub, Nat.reduceLT, Nat.reduceLeDiff, Nat.reduceEqDiff, Nat.reduceBEq, ↓reduceIte, reduceCtorEq]
  cases hw : isStuff h s with
  | false =>
    have e : liesErr h b s = 6 := by unfold liesErr; rw [if_neg (by rw [hc]; simp), hw]; rfl
    have e2 : liesR h b s = ((0, 0), (0, 0), (0, 0)) := by unfold liesR; rw [e, if_neg (by decide)]
    simp (maxSteps := 2000000) only [vcA, ↓vcP, ↓reduceIte, reduceCtorEq, Nat.reduceAdd, Nat.reduceMul, Nat.reduceSub, Nat.reduceLT, Nat.reduceLeDiff, Nat.reduceEqDiff, Nat.reduceBEq, Nat.reduceBNe, Nat.reduceGT, Nat.reduceDiv, Nat.reduceMod, Int.reduceAdd, Int.reduceSub, Int.reduceNeg, Int.reduceLT, Int.reduceLE, Int.reduceEq, Int.reduceToNat, fA]
    repeat (first | refine ⟨by kernel_rfl, ?_⟩ | refine ⟨⟨by kernel_rfl, by kernel_rfl⟩, ?_⟩ | refine ⟨⟨by kernel_rfl, by kernel_rfl, by kernel_rfl⟩, ?_⟩ | refine ⟨⟨by kernel_rfl, by kernel_rfl, by kernel_rfl, by kernel_rfl⟩, ?_⟩ | refine ⟨⟨by kernel_rfl, by kernel_rfl, by kernel_rfl, by kernel_rfl, by kernel_rfl⟩, ?_⟩ | refine ⟨⟨by kernel_rfl, by kernel_rfl, by kernel_rfl, by kernel_rfl, by kernel_rfl, by kernel_rfl⟩, ?_⟩ | refine ⟨⟨by kernel_rfl, by kernel_rfl, by kernel_rfl, by kernel_rfl, by kernel_rfl, by kernel_rfl, by kernel_rfl⟩, ?_⟩ | refine ⟨⟨by kernel_rfl, by kernel_rfl, by kernel_rfl, by kernel_rfl, by kernel_rfl, by kernel_rfl, by kernel_rfl, by kernel_rfl⟩, ?_⟩ | refine ⟨⟨by kernel_rfl, by kernel_rfl, by kernel_rfl, by kernel_rfl, by kernel_rfl, by kernel_rfl, by kernel_rfl, by kernel_rfl, by kernel_rfl⟩, ?_⟩ | refine ⟨⟨by kernel_rfl, by kernel_rfl, by kernel_rfl, by kernel_rfl, by kernel_rfl, by kernel_rfl, by kernel_rfl, by kernel_rfl, by kernel_rfl, by kernel_rfl⟩, ?_⟩ | refine ⟨⟨by kernel_rfl, by kernel_rfl, by kernel_rfl, by kernel_rfl, by kernel_rfl, by kernel_rfl, by kernel_rfl, by kernel_rfl, by kernel_rfl, by kernel_rfl, by kernel_rfl⟩, ?_⟩ | refine ⟨⟨by kernel_rfl, by kernel_rfl, by kernel_rfl, by kernel_rfl, by kernel_rfl, by kernel_rfl, by kernel_rfl, by kernel_rfl, by kernel_rfl, by kernel_rfl, by kernel_rfl, by kernel_rfl⟩, ?_⟩ | refine ⟨⟨by kernel_rfl, by kernel_rfl, by kernel_rfl, by kernel_rfl, by kernel_rfl, by kernel_rfl, by kernel_rfl, by kernel_rfl, by kernel_rfl, by kernel_rfl, by kernel_rfl, by kernel_rfl, by kernel_rfl⟩, ?_⟩)
    refine hR _ (fin_of0 ?_)
    rw [e, e2]
    simp (maxSteps := 2000000) only [enA, ↓enP, Nat.reduceAdd, Nat.reduceMul, Nat.reduceSub, Nat.reduceLT, Nat.reduceLeDiff, Nat.reduceEqDiff, Nat.reduceBEq, ↓reduceIte, reduceCtorEq, fA]
  | true =>
    have e : liesErr h b s = 0 := by unfold liesErr; rw [if_neg (by rw [hc]; simp), hw]; rfl
    have e2 : liesR h b s = (homeN h b s 6, infansN h b s 6, lostN h b s 6) := by unfold liesR; rw [e, if_pos rfl]
    have hs : 0 ≤ s ∧ s < h.tk.length := by have := betw1 hw; omega
    simp (maxSteps := 2000000) only [vcA, ↓vcP, ↓reduceIte, reduceCtorEq, Nat.reduceAdd, Nat.reduceMul, Nat.reduceSub, Nat.reduceLT, Nat.reduceLeDiff, Nat.reduceEqDiff, Nat.reduceBEq, Nat.reduceBNe, Nat.reduceGT, Nat.reduceDiv, Nat.reduceMod, Int.reduceAdd, Int.reduceSub, Int.reduceNeg, Int.reduceLT, Int.reduceLE, Int.reduceEq, Int.reduceToNat, fA]
    refine goC_loop (α := {w : Nat // w ≤ 6}) (fun x => ⟨[(2, .v (.int .i64 s)), (6, .ptr 16 0), (7, .ptr 24 0), (8, .ptr 32 0), (10, .ptr 96 0), (34, .v (.int .i64 x.1))], [(16, .box 47 [.v (.int .i64 (homeN h b s x.1).1), .v (.int .i64 (homeN h b s x.1).2)]), (24, .box 47 [.v (.int .i64 (infansN h b s x.1).1), .v (.int .i64 (infansN h b s x.1).2)]), (32, .box 47 [.v (.int .i64 (lostN h b s x.1).1), .v (.int .i64 (lostN h b s x.1).2)]), (96, .box 74 [.v (.int .i64 h.sc), .sl 2 (h.tk.map spR), .sl 1 (h.lo.map iR), .sl 4 (b.map enR)])]⟩) (fun x => 6 - x.1) ⟨0, by omega⟩ [] ?_ ?_
    · simp (maxSteps := 2000000) only [enA, ↓enP, Nat.reduceAdd, Nat.reduceMul, Nat.reduceSub, Nat.reduceLT, Nat.reduceLeDiff, Nat.reduceEqDiff, Nat.reduceBEq, ↓reduceIte, reduceCtorEq, fA]
      exact ⟨rfl, ⟨rfl, rfl⟩, ⟨rfl, rfl⟩, rfl, rfl⟩
    intro x B hB
    obtain ⟨w, hw6⟩ := x
    by_cases c1 : w < 6
    · have q1 : ((w : Int) < 6) = True := eq_true (by omega)
      have e0 : IntKind.i64.wrap ((w : Int) + 1) = ((w + 1 : Nat) : Int) := wrap_id (by omega) (by omega)
      have b1 := homeN_bd hb hs w
      have b2 := infansN_bd hb hs w
      have b3 := lostN_bd hb hs w
      have t1 : homeN h b s (w + 1) = ((homeN h b s w).1 + (has (acc h b w s nof)).1, (homeN h b s w).2 + (has (acc h b w s nof)).2) := rfl
      have t2 : infansN h b s (w + 1) = ((infansN h b s w).1 + (acc h b w s nof).f1, (infansN h b s w).2 + min (acc h b w s nof).f2 ((acc h b w s nof).o2 - (acc h b w s nof).b1)) := rfl
      have t3 : lostN h b s (w + 1) = ((lostN h b s w).1 + 0, (lostN h b s w).2 + min (loss (acc h b w s nof) (acc h b w s nof).o2) (high (acc h b w s nof))) := rfl
      generalize homeN h b s w = X1 at b1 t1 ⊢
      generalize infansN h b s w = X2 at b2 t2 ⊢
      generalize lostN h b s w = X3 at b3 t3 ⊢
      have hbd := acc_bd hb (w := w) hs nof
      have ga := account_spec (fr := nof) h b w s hb hs fun i _ => none_spec i
      generalize acc h b w s nof = a at t1 t2 t3 hbd ga
      have ghb := has_bd hbd
      have ghi := high_bd hbd
      obtain ⟨d1, d2, d3, d4⟩ := hbd
      have gl := loss_bd (a := a) ⟨d1, d2, d3, d4⟩ (n := a.o2) (by omega)
      have w1 : IntKind.i64.wrap (a.o2 - a.b1) = a.o2 - a.b1 := wrap_id (by omega) (by omega)
      simp (maxSteps := 2000000) only [vcA, ↓vcP, ↓reduceIte, reduceCtorEq, Nat.reduceAdd, Nat.reduceMul, Nat.reduceSub, Nat.reduceLT, Nat.reduceLeDiff, Nat.reduceEqDiff, Nat.reduceBEq, Nat.reduceBNe, Nat.reduceGT, Nat.reduceDiv, Nat.reduceMod, Int.reduceAdd, Int.reduceSub, Int.reduceNeg, Int.reduceLT, Int.reduceLE, Int.reduceEq, Int.reduceToNat, fA, q1]
      refine onF_data ga ?_ ?_
      · simp (maxSteps := 2000000) only [okA, ↓okP, Nat.reduceAdd, Nat.reduceMul, Nat.reduceSub, Nat.reduceLT, Nat.reduceLeDiff, Nat.reduceEqDiff, Nat.reduceBEq, ↓reduceIte, reduceCtorEq]
      simp (maxSteps := 2000000) only [vcA, ↓vcP, ↓reduceIte, reduceCtorEq, Nat.reduceAdd, Nat.reduceMul, Nat.reduceSub, Nat.reduceLT, Nat.reduceLeDiff, Nat.reduceEqDiff, Nat.reduceBEq, Nat.reduceBNe, Nat.reduceGT, Nat.reduceDiv, Nat.reduceMod, Int.reduceAdd, Int.reduceSub, Int.reduceNeg, Int.reduceLT, Int.reduceLE, Int.reduceEq, Int.reduceToNat, fA, acA]
      refine onF_data (has_spec a ⟨d1, d2, d3, d4⟩) ?_ ?_
      · simp (maxSteps := 2000000) only [okA, ↓okP, Nat.reduceAdd, Nat.reduceMul, Nat.reduceSub, Nat.reduceLT, Nat.reduceLeDiff, Nat.reduceEqDiff, Nat.reduceBEq, ↓reduceIte, reduceCtorEq, acA]
      simp (maxSteps := 2000000) only [vcA, ↓vcP, ↓reduceIte, reduceCtorEq, Nat.reduceAdd, Nat.reduceMul, Nat.reduceSub, Nat.reduceLT, Nat.reduceLeDiff, Nat.reduceEqDiff, Nat.reduceBEq, Nat.reduceBNe, Nat.reduceGT, Nat.reduceDiv, Nat.reduceMod, Int.reduceAdd, Int.reduceSub, Int.reduceNeg, Int.reduceLT, Int.reduceLE, Int.reduceEq, Int.reduceToNat, fA]
      repeat (first | refine ⟨by kernel_rfl, ?_⟩ | refine ⟨⟨by kernel_rfl, by kernel_rfl⟩, ?_⟩ | refine ⟨⟨by kernel_rfl, by kernel_rfl, by kernel_rfl⟩, ?_⟩ | refine ⟨⟨by kernel_rfl, by kernel_rfl, by kernel_rfl, by kernel_rfl⟩, ?_⟩ | refine ⟨⟨by kernel_rfl, by kernel_rfl, by kernel_rfl, by kernel_rfl, by kernel_rfl⟩, ?_⟩ | refine ⟨⟨by kernel_rfl, by kernel_rfl, by kernel_rfl, by kernel_rfl, by kernel_rfl, by kernel_rfl⟩, ?_⟩ | refine ⟨⟨by kernel_rfl, by kernel_rfl, by kernel_rfl, by kernel_rfl, by kernel_rfl, by kernel_rfl, by kernel_rfl⟩, ?_⟩ | refine ⟨⟨by kernel_rfl, by kernel_rfl, by kernel_rfl, by kernel_rfl, by kernel_rfl, by kernel_rfl, by kernel_rfl, by kernel_rfl⟩, ?_⟩ | refine ⟨⟨by kernel_rfl, by kernel_rfl, by kernel_rfl, by kernel_rfl, by kernel_rfl, by kernel_rfl, by kernel_rfl, by kernel_rfl, by kernel_rfl⟩, ?_⟩ | refine ⟨⟨by kernel_rfl, by kernel_rfl, by kernel_rfl, by kernel_rfl, by kernel_rfl, by kernel_rfl, by kernel_rfl, by kernel_rfl, by kernel_rfl, by kernel_rfl⟩, ?_⟩ | refine ⟨⟨by kernel_rfl, by kernel_rfl, by kernel_rfl, by kernel_rfl, by kernel_rfl, by kernel_rfl, by kernel_rfl, by kernel_rfl, by kernel_rfl, by kernel_rfl, by kernel_rfl⟩, ?_⟩ | refine ⟨⟨by kernel_rfl, by kernel_rfl, by kernel_rfl, by kernel_rfl, by kernel_rfl, by kernel_rfl, by kernel_rfl, by kernel_rfl, by kernel_rfl, by kernel_rfl, by kernel_rfl, by kernel_rfl⟩, ?_⟩ | refine ⟨⟨by kernel_rfl, by kernel_rfl, by kernel_rfl, by kernel_rfl, by kernel_rfl, by kernel_rfl, by kernel_rfl, by kernel_rfl, by kernel_rfl, by kernel_rfl, by kernel_rfl, by kernel_rfl, by kernel_rfl⟩, ?_⟩)
      refine onF_data (plus_spec X1 (has a) (by omega) (by omega) (by omega) (by omega)) ?_ ?_
      · simp (maxSteps := 2000000) only [okA, ↓okP, Nat.reduceAdd, Nat.reduceMul, Nat.reduceSub, Nat.reduceLT, Nat.reduceLeDiff, Nat.reduceEqDiff, Nat.reduceBEq, ↓reduceIte, reduceCtorEq]
      simp (maxSteps := 2000000) only [vcA, ↓vcP, ↓reduceIte, reduceCtorEq, Nat.reduceAdd, Nat.reduceMul, Nat.reduceSub, Nat.reduceLT, Nat.reduceLeDiff, Nat.reduceEqDiff, Nat.reduceBEq, Nat.reduceBNe, Nat.reduceGT, Nat.reduceDiv, Nat.reduceMod, Int.reduceAdd, Int.reduceSub, Int.reduceNeg, Int.reduceLT, Int.reduceLE, Int.reduceEq, Int.reduceToNat, fA, w1]
      repeat (first | refine ⟨by kernel_rfl, ?_⟩ | refine ⟨⟨by kernel_rfl, by kernel_rfl⟩, ?_⟩ | refine ⟨⟨by kernel_rfl, by kernel_rfl, by kernel_rfl⟩, ?_⟩ | refine ⟨⟨by kernel_rfl, by kernel_rfl, by kernel_rfl, by kernel_rfl⟩, ?_⟩ | refine ⟨⟨by kernel_rfl, by kernel_rfl, by kernel_rfl, by kernel_rfl, by kernel_rfl⟩, ?_⟩ | refine ⟨⟨by kernel_rfl, by kernel_rfl, by kernel_rfl, by kernel_rfl, by kernel_rfl, by kernel_rfl⟩, ?_⟩ | refine ⟨⟨by kernel_rfl, by kernel_rfl, by kernel_rfl, by kernel_rfl, by kernel_rfl, by kernel_rfl, by kernel_rfl⟩, ?_⟩ | refine ⟨⟨by kernel_rfl, by kernel_rfl, by kernel_rfl, by kernel_rfl, by kernel_rfl, by kernel_rfl, by kernel_rfl, by kernel_rfl⟩, ?_⟩ | refine ⟨⟨by kernel_rfl, by kernel_rfl, by kernel_rfl, by kernel_rfl, by kernel_rfl, by kernel_rfl, by kernel_rfl, by kernel_rfl, by kernel_rfl⟩, ?_⟩ | refine ⟨⟨by kernel_rfl, by kernel_rfl, by kernel_rfl, by kernel_rfl, by kernel_rfl, by kernel_rfl, by kernel_rfl, by kernel_rfl, by kernel_rfl, by kernel_rfl⟩, ?_⟩ | refine ⟨⟨by kernel_rfl, by kernel_rfl, by kernel_rfl, by kernel_rfl, by kernel_rfl, by kernel_rfl, by kernel_rfl, by kernel_rfl, by kernel_rfl, by kernel_rfl, by kernel_rfl⟩, ?_⟩ | refine ⟨⟨by kernel_rfl, by kernel_rfl, by kernel_rfl, by kernel_rfl, by kernel_rfl, by kernel_rfl, by kernel_rfl, by kernel_rfl, by kernel_rfl, by kernel_rfl, by kernel_rfl, by kernel_rfl⟩, ?_⟩ | refine ⟨⟨by kernel_rfl, by kernel_rfl, by kernel_rfl, by kernel_rfl, by kernel_rfl, by kernel_rfl, by kernel_rfl, by kernel_rfl, by kernel_rfl, by kernel_rfl, by kernel_rfl, by kernel_rfl, by kernel_rfl⟩, ?_⟩)
      refine onF_data (plus_spec X2 (a.f1, min a.f2 (a.o2 - a.b1)) (by omega) (by omega) (by simp only; omega) (by simp only; omega)) ?_ ?_
      · simp (maxSteps := 2000000) only [okA, ↓okP, Nat.reduceAdd, Nat.reduceMul, Nat.reduceSub, Nat.reduceLT, Nat.reduceLeDiff, Nat.reduceEqDiff, Nat.reduceBEq, ↓reduceIte, reduceCtorEq]
      simp (maxSteps := 2000000) only [vcA, ↓vcP, ↓reduceIte, reduceCtorEq, Nat.reduceAdd, Nat.reduceMul, Nat.reduceSub, Nat.reduceLT, Nat.reduceLeDiff, Nat.reduceEqDiff, Nat.reduceBEq, Nat.reduceBNe, Nat.reduceGT, Nat.reduceDiv, Nat.reduceMod, Int.reduceAdd, Int.reduceSub, Int.reduceNeg, Int.reduceLT, Int.reduceLE, Int.reduceEq, Int.reduceToNat, fA]
      repeat (first | refine ⟨by kernel_rfl, ?_⟩ | refine ⟨⟨by kernel_rfl, by kernel_rfl⟩, ?_⟩ | refine ⟨⟨by kernel_rfl, by kernel_rfl, by kernel_rfl⟩, ?_⟩ | refine ⟨⟨by kernel_rfl, by kernel_rfl, by kernel_rfl, by kernel_rfl⟩, ?_⟩ | refine ⟨⟨by kernel_rfl, by kernel_rfl, by kernel_rfl, by kernel_rfl, by kernel_rfl⟩, ?_⟩ | refine ⟨⟨by kernel_rfl, by kernel_rfl, by kernel_rfl, by kernel_rfl, by kernel_rfl, by kernel_rfl⟩, ?_⟩ | refine ⟨⟨by kernel_rfl, by kernel_rfl, by kernel_rfl, by kernel_rfl, by kernel_rfl, by kernel_rfl, by kernel_rfl⟩, ?_⟩ | refine ⟨⟨by kernel_rfl, by kernel_rfl, by kernel_rfl, by kernel_rfl, by kernel_rfl, by kernel_rfl, by kernel_rfl, by kernel_rfl⟩, ?_⟩ | refine ⟨⟨by kernel_rfl, by kernel_rfl, by kernel_rfl, by kernel_rfl, by kernel_rfl, by kernel_rfl, by kernel_rfl, by kernel_rfl, by kernel_rfl⟩, ?_⟩ | refine ⟨⟨by kernel_rfl, by kernel_rfl, by kernel_rfl, by kernel_rfl, by kernel_rfl, by kernel_rfl, by kernel_rfl, by kernel_rfl, by kernel_rfl, by kernel_rfl⟩, ?_⟩ | refine ⟨⟨by kernel_rfl, by kernel_rfl, by kernel_rfl, by kernel_rfl, by kernel_rfl, by kernel_rfl, by kernel_rfl, by kernel_rfl, by kernel_rfl, by kernel_rfl, by kernel_rfl⟩, ?_⟩ | refine ⟨⟨by kernel_rfl, by kernel_rfl, by kernel_rfl, by kernel_rfl, by kernel_rfl, by kernel_rfl, by kernel_rfl, by kernel_rfl, by kernel_rfl, by kernel_rfl, by kernel_rfl, by kernel_rfl⟩, ?_⟩ | refine ⟨⟨by kernel_rfl, by kernel_rfl, by kernel_rfl, by kernel_rfl, by kernel_rfl, by kernel_rfl, by kernel_rfl, by kernel_rfl, by kernel_rfl, by kernel_rfl, by kernel_rfl, by kernel_rfl, by kernel_rfl⟩, ?_⟩)
      refine onF_data (loss_spec a a.o2 ⟨d1, d2, d3, d4⟩ (by omega)) ?_ ?_
      · simp (maxSteps := 2000000) only [okA, ↓okP, Nat.reduceAdd, Nat.reduceMul, Nat.reduceSub, Nat.reduceLT, Nat.reduceLeDiff, Nat.reduceEqDiff, Nat.reduceBEq, ↓reduceIte, reduceCtorEq, acA]
      simp (maxSteps := 2000000) only [vcA, ↓vcP, ↓reduceIte, reduceCtorEq, Nat.reduceAdd, Nat.reduceMul, Nat.reduceSub, Nat.reduceLT, Nat.reduceLeDiff, Nat.reduceEqDiff, Nat.reduceBEq, Nat.reduceBNe, Nat.reduceGT, Nat.reduceDiv, Nat.reduceMod, Int.reduceAdd, Int.reduceSub, Int.reduceNeg, Int.reduceLT, Int.reduceLE, Int.reduceEq, Int.reduceToNat, fA, acA]
      repeat (first | refine ⟨by kernel_rfl, ?_⟩ | refine ⟨⟨by kernel_rfl, by kernel_rfl⟩, ?_⟩ | refine ⟨⟨by kernel_rfl, by kernel_rfl, by kernel_rfl⟩, ?_⟩ | refine ⟨⟨by kernel_rfl, by kernel_rfl, by kernel_rfl, by kernel_rfl⟩, ?_⟩ | refine ⟨⟨by kernel_rfl, by kernel_rfl, by kernel_rfl, by kernel_rfl, by kernel_rfl⟩, ?_⟩ | refine ⟨⟨by kernel_rfl, by kernel_rfl, by kernel_rfl, by kernel_rfl, by kernel_rfl, by kernel_rfl⟩, ?_⟩ | refine ⟨⟨by kernel_rfl, by kernel_rfl, by kernel_rfl, by kernel_rfl, by kernel_rfl, by kernel_rfl, by kernel_rfl⟩, ?_⟩ | refine ⟨⟨by kernel_rfl, by kernel_rfl, by kernel_rfl, by kernel_rfl, by kernel_rfl, by kernel_rfl, by kernel_rfl, by kernel_rfl⟩, ?_⟩ | refine ⟨⟨by kernel_rfl, by kernel_rfl, by kernel_rfl, by kernel_rfl, by kernel_rfl, by kernel_rfl, by kernel_rfl, by kernel_rfl, by kernel_rfl⟩, ?_⟩ | refine ⟨⟨by kernel_rfl, by kernel_rfl, by kernel_rfl, by kernel_rfl, by kernel_rfl, by kernel_rfl, by kernel_rfl, by kernel_rfl, by kernel_rfl, by kernel_rfl⟩, ?_⟩ | refine ⟨⟨by kernel_rfl, by kernel_rfl, by kernel_rfl, by kernel_rfl, by kernel_rfl, by kernel_rfl, by kernel_rfl, by kernel_rfl, by kernel_rfl, by kernel_rfl, by kernel_rfl⟩, ?_⟩ | refine ⟨⟨by kernel_rfl, by kernel_rfl, by kernel_rfl, by kernel_rfl, by kernel_rfl, by kernel_rfl, by kernel_rfl, by kernel_rfl, by kernel_rfl, by kernel_rfl, by kernel_rfl, by kernel_rfl⟩, ?_⟩ | refine ⟨⟨by kernel_rfl, by kernel_rfl, by kernel_rfl, by kernel_rfl, by kernel_rfl, by kernel_rfl, by kernel_rfl, by kernel_rfl, by kernel_rfl, by kernel_rfl, by kernel_rfl, by kernel_rfl, by kernel_rfl⟩, ?_⟩)
      refine onF_data (high_spec a ⟨d1, d2, d3, d4⟩) ?_ ?_
      · simp (maxSteps := 2000000) only [okA, ↓okP, Nat.reduceAdd, Nat.reduceMul, Nat.reduceSub, Nat.reduceLT, Nat.reduceLeDiff, Nat.reduceEqDiff, Nat.reduceBEq, ↓reduceIte, reduceCtorEq, acA]
      simp (maxSteps := 2000000) only [vcA, ↓vcP, ↓reduceIte, reduceCtorEq, Nat.reduceAdd, Nat.reduceMul, Nat.reduceSub, Nat.reduceLT, Nat.reduceLeDiff, Nat.reduceEqDiff, Nat.reduceBEq, Nat.reduceBNe, Nat.reduceGT, Nat.reduceDiv, Nat.reduceMod, Int.reduceAdd, Int.reduceSub, Int.reduceNeg, Int.reduceLT, Int.reduceLE, Int.reduceEq, Int.reduceToNat, fA, acA]
      repeat (first | refine ⟨by kernel_rfl, ?_⟩ | refine ⟨⟨by kernel_rfl, by kernel_rfl⟩, ?_⟩ | refine ⟨⟨by kernel_rfl, by kernel_rfl, by kernel_rfl⟩, ?_⟩ | refine ⟨⟨by kernel_rfl, by kernel_rfl, by kernel_rfl, by kernel_rfl⟩, ?_⟩ | refine ⟨⟨by kernel_rfl, by kernel_rfl, by kernel_rfl, by kernel_rfl, by kernel_rfl⟩, ?_⟩ | refine ⟨⟨by kernel_rfl, by kernel_rfl, by kernel_rfl, by kernel_rfl, by kernel_rfl, by kernel_rfl⟩, ?_⟩ | refine ⟨⟨by kernel_rfl, by kernel_rfl, by kernel_rfl, by kernel_rfl, by kernel_rfl, by kernel_rfl, by kernel_rfl⟩, ?_⟩ | refine ⟨⟨by kernel_rfl, by kernel_rfl, by kernel_rfl, by kernel_rfl, by kernel_rfl, by kernel_rfl, by kernel_rfl, by kernel_rfl⟩, ?_⟩ | refine ⟨⟨by kernel_rfl, by kernel_rfl, by kernel_rfl, by kernel_rfl, by kernel_rfl, by kernel_rfl, by kernel_rfl, by kernel_rfl, by kernel_rfl⟩, ?_⟩ | refine ⟨⟨by kernel_rfl, by kernel_rfl, by kernel_rfl, by kernel_rfl, by kernel_rfl, by kernel_rfl, by kernel_rfl, by kernel_rfl, by kernel_rfl, by kernel_rfl⟩, ?_⟩ | refine ⟨⟨by kernel_rfl, by kernel_rfl, by kernel_rfl, by kernel_rfl, by kernel_rfl, by kernel_rfl, by kernel_rfl, by kernel_rfl, by kernel_rfl, by kernel_rfl, by kernel_rfl⟩, ?_⟩ | refine ⟨⟨by kernel_rfl, by kernel_rfl, by kernel_rfl, by kernel_rfl, by kernel_rfl, by kernel_rfl, by kernel_rfl, by kernel_rfl, by kernel_rfl, by kernel_rfl, by kernel_rfl, by kernel_rfl⟩, ?_⟩ | refine ⟨⟨by kernel_rfl, by kernel_rfl, by kernel_rfl, by kernel_rfl, by kernel_rfl, by kernel_rfl, by kernel_rfl, by kernel_rfl, by kernel_rfl, by kernel_rfl, by kernel_rfl, by kernel_rfl, by kernel_rfl⟩, ?_⟩)
      refine onF_data (plus_spec X3 (0, min (loss a a.o2) (high a)) (by omega) (by omega) (by simp only; omega) (by simp only; omega)) ?_ ?_
      · simp (maxSteps := 2000000) only [okA, ↓okP, Nat.reduceAdd, Nat.reduceMul, Nat.reduceSub, Nat.reduceLT, Nat.reduceLeDiff, Nat.reduceEqDiff, Nat.reduceBEq, ↓reduceIte, reduceCtorEq]
      simp (maxSteps := 2000000) only [vcA, ↓vcP, ↓reduceIte, reduceCtorEq, Nat.reduceAdd, Nat.reduceMul, Nat.reduceSub, Nat.reduceLT, Nat.reduceLeDiff, Nat.reduceEqDiff, Nat.reduceBEq, Nat.reduceBNe, Nat.reduceGT, Nat.reduceDiv, Nat.reduceMod, Int.reduceAdd, Int.reduceSub, Int.reduceNeg, Int.reduceLT, Int.reduceLE, Int.reduceEq, Int.reduceToNat, fA, e0]
      repeat (first | refine ⟨by kernel_rfl, ?_⟩ | refine ⟨⟨by kernel_rfl, by kernel_rfl⟩, ?_⟩ | refine ⟨⟨by kernel_rfl, by kernel_rfl, by kernel_rfl⟩, ?_⟩ | refine ⟨⟨by kernel_rfl, by kernel_rfl, by kernel_rfl, by kernel_rfl⟩, ?_⟩ | refine ⟨⟨by kernel_rfl, by kernel_rfl, by kernel_rfl, by kernel_rfl, by kernel_rfl⟩, ?_⟩ | refine ⟨⟨by kernel_rfl, by kernel_rfl, by kernel_rfl, by kernel_rfl, by kernel_rfl, by kernel_rfl⟩, ?_⟩ | refine ⟨⟨by kernel_rfl, by kernel_rfl, by kernel_rfl, by kernel_rfl, by kernel_rfl, by kernel_rfl, by kernel_rfl⟩, ?_⟩ | refine ⟨⟨by kernel_rfl, by kernel_rfl, by kernel_rfl, by kernel_rfl, by kernel_rfl, by kernel_rfl, by kernel_rfl, by kernel_rfl⟩, ?_⟩ | refine ⟨⟨by kernel_rfl, by kernel_rfl, by kernel_rfl, by kernel_rfl, by kernel_rfl, by kernel_rfl, by kernel_rfl, by kernel_rfl, by kernel_rfl⟩, ?_⟩ | refine ⟨⟨by kernel_rfl, by kernel_rfl, by kernel_rfl, by kernel_rfl, by kernel_rfl, by kernel_rfl, by kernel_rfl, by kernel_rfl, by kernel_rfl, by kernel_rfl⟩, ?_⟩ | refine ⟨⟨by kernel_rfl, by kernel_rfl, by kernel_rfl, by kernel_rfl, by kernel_rfl, by kernel_rfl, by kernel_rfl, by kernel_rfl, by kernel_rfl, by kernel_rfl, by kernel_rfl⟩, ?_⟩ | refine ⟨⟨by kernel_rfl, by kernel_rfl, by kernel_rfl, by kernel_rfl, by kernel_rfl, by kernel_rfl, by kernel_rfl, by kernel_rfl, by kernel_rfl, by kernel_rfl, by kernel_rfl, by kernel_rfl⟩, ?_⟩ | refine ⟨⟨by kernel_rfl, by kernel_rfl, by kernel_rfl, by kernel_rfl, by kernel_rfl, by kernel_rfl, by kernel_rfl, by kernel_rfl, by kernel_rfl, by kernel_rfl, by kernel_rfl, by kernel_rfl, by kernel_rfl⟩, ?_⟩)
      refine hB _ ⟨w + 1, by omega⟩ [] (by simp only; omega) rfl ?_
      rw [t1, t2, t3]
      simp (maxSteps := 2000000) only [enA, ↓enP, Nat.reduceAdd, Nat.reduceMul, Nat.reduceSub, Nat.reduceLT, Nat.reduceLeDiff, Nat.reduceEqDiff, Nat.reduceBEq, ↓reduceIte, reduceCtorEq, fA]
    · have q1 : ((w : Int) < 6) = False := eq_false (by omega)
      have : w = 6 := by omega
      subst this
      simp (maxSteps := 2000000) only [vcA, ↓vcP, ↓reduceIte, reduceCtorEq, Nat.reduceAdd, Nat.reduceMul, Nat.reduceSub, Nat.reduceLT, Nat.reduceLeDiff, Nat.reduceEqDiff, Nat.reduceBEq, Nat.reduceBNe, Nat.reduceGT, Nat.reduceDiv, Nat.reduceMod, Int.reduceAdd, Int.reduceSub, Int.reduceNeg, Int.reduceLT, Int.reduceLE, Int.reduceEq, Int.reduceToNat, fA, q1]
      repeat (first | refine ⟨by kernel_rfl, ?_⟩ | refine ⟨⟨by kernel_rfl, by kernel_rfl⟩, ?_⟩ | refine ⟨⟨by kernel_rfl, by kernel_rfl, by kernel_rfl⟩, ?_⟩ | refine ⟨⟨by kernel_rfl, by kernel_rfl, by kernel_rfl, by kernel_rfl⟩, ?_⟩ | refine ⟨⟨by kernel_rfl, by kernel_rfl, by kernel_rfl, by kernel_rfl, by kernel_rfl⟩, ?_⟩ | refine ⟨⟨by kernel_rfl, by kernel_rfl, by kernel_rfl, by kernel_rfl, by kernel_rfl, by kernel_rfl⟩, ?_⟩ | refine ⟨⟨by kernel_rfl, by kernel_rfl, by kernel_rfl, by kernel_rfl, by kernel_rfl, by kernel_rfl, by kernel_rfl⟩, ?_⟩ | refine ⟨⟨by kernel_rfl, by kernel_rfl, by kernel_rfl, by kernel_rfl, by kernel_rfl, by kernel_rfl, by kernel_rfl, by kernel_rfl⟩, ?_⟩ | refine ⟨⟨by kernel_rfl, by kernel_rfl, by kernel_rfl, by kernel_rfl, by kernel_rfl, by kernel_rfl, by kernel_rfl, by kernel_rfl, by kernel_rfl⟩, ?_⟩ | refine ⟨⟨by kernel_rfl, by kernel_rfl, by kernel_rfl, by kernel_rfl, by kernel_rfl, by kernel_rfl, by kernel_rfl, by kernel_rfl, by kernel_rfl, by kernel_rfl⟩, ?_⟩ | refine ⟨⟨by kernel_rfl, by kernel_rfl, by kernel_rfl, by kernel_rfl, by kernel_rfl, by kernel_rfl, by kernel_rfl, by kernel_rfl, by kernel_rfl, by kernel_rfl, by kernel_rfl⟩, ?_⟩ | refine ⟨⟨by kernel_rfl, by kernel_rfl, by kernel_rfl, by kernel_rfl, by kernel_rfl, by kernel_rfl, by kernel_rfl, by kernel_rfl, by kernel_rfl, by kernel_rfl, by kernel_rfl, by kernel_rfl⟩, ?_⟩ | refine ⟨⟨by kernel_rfl, by kernel_rfl, by kernel_rfl, by kernel_rfl, by kernel_rfl, by kernel_rfl, by kernel_rfl, by kernel_rfl, by kernel_rfl, by kernel_rfl, by kernel_rfl, by kernel_rfl, by kernel_rfl⟩, ?_⟩)
      refine hR _ (fin_of0 ?_)
      rw [e, e2]
      simp (maxSteps := 2000000) only [enA, ↓enP, Nat.reduceAdd, Nat.reduceMul, Nat.reduceSub, Nat.reduceLT, Nat.reduceLeDiff, Nat.reduceEqDiff, Nat.reduceBEq, ↓reduceIte, reduceCtorEq, fA]
def weighN (h : Hs) (b : List En) (s : Int) : Nat → Int × Int
  | 0 => (0, 0)
  | n + 1 => if (has (acc h b n s nof)).2 - (has (acc h b n s nof)).1 > (weighN h b s n).2 then ((n : Int), (has (acc h b n s nof)).2 - (has (acc h b n s nof)).1) else weighN h b s n
def weighErr (h : Hs) (b : List En) (s : Int) : Int := if liesErr h b s ≠ 0 then liesErr h b s else if (weighN h b s 6).2 = 0 then 7 else 0
def weighR (h : Hs) (b : List En) (s : Int) : Int × Int := if weighErr h b s = 0 then weighN h b s 6 else (0, 0)
set_option maxHeartbeats 4000000 in
theorem weigh_spec (h : Hs) (b : List En) (s : Int) (h1 : h.tk.length < 1000000) (h2 : h.lo.length < 1000000) (h3 : b.length < 1000000) : SpecF Try.prog 25 [.agg [.v (.int .i64 h.sc), .sl 2 (h.tk.map spR), .sl 1 (h.lo.map iR)], .sl 4 (b.map enR), .v (.int .i64 s)]
    (.tup [.v (.int .i64 (weighR h b s).1), .v (.int .i64 (weighR h b s).2), .v (.int .i64 (weighErr h b s))]) [] := by
  refine spec_go (N := 53) (rs := [.tmp 6, .tmp 7, .tmp 8]) (eq := eqs) rfl rfl fun_25 rfl (by kernel_rfl) (by kernel_rfl) (by simp) (by simp) (by simp) (by simp) fun R hR => ?_
  simp (maxSteps := 2000000) only [vcA, ↓vcP, ↓reduceIte, reduceCtorEq, Nat.reduceAdd, Nat.reduceMul, Nat.reduceSub, Nat.reduceLT, Nat.reduceLeDiff, Nat.reduceEqDiff, Nat.reduceBEq, Nat.reduceBNe, Nat.reduceGT, Nat.reduceDiv, Nat.reduceMod, Int.reduceAdd, Int.reduceSub, Int.reduceNeg, Int.reduceLT, Int.reduceLE, Int.reduceEq, Int.reduceToNat, fA]
  refine onF_data (open_spec h b h1 h2 h3) ?_ ?_
  · simp (maxSteps := 2000000) only [okA, ↓okP, Nat.reduceAdd, Nat.reduceMul, Nat.reduceSub, Nat.reduceLT, Nat.reduceLeDiff, Nat.reduceEqDiff, Nat.reduceBEq, ↓reduceIte, reduceCtorEq]
  by_cases hc : openErr h b ≠ 0
  · have bn : (openErr h b != 0) = true := by simpa using hc
    have e : liesErr h b s = openErr h b := by unfold liesErr; rw [if_pos hc]
    have e1 : weighErr h b s = openErr h b := by unfold weighErr; rw [e, if_pos hc]
    have e2 : weighR h b s = (0, 0) := by unfold weighR; rw [e1, if_neg hc]
    simp (maxSteps := 2000000) only [vcA, ↓vcP, ↓reduceIte, reduceCtorEq, Nat.reduceAdd, Nat.reduceMul, Nat.reduceSub, Nat.reduceLT, Nat.reduceLeDiff, Nat.reduceEqDiff, Nat.reduceBEq, Nat.reduceBNe, Nat.reduceGT, Nat.reduceDiv, Nat.reduceMod, Int.reduceAdd, Int.reduceSub, Int.reduceNeg, Int.reduceLT, Int.reduceLE, Int.reduceEq, Int.reduceToNat, fA, bn]
    refine hR _ (fin_of0 ?_)
    rw [e1, e2]
    simp (maxSteps := 2000000) only [enA, ↓enP, Nat.reduceAdd, Nat.reduceMul, Nat.reduceSub, Nat.reduceLT, Nat.reduceLeDiff, Nat.reduceEqDiff, Nat.reduceBEq, ↓reduceIte, reduceCtorEq, fA]
  have hc : openErr h b = 0 := by simpa using hc
  obtain ⟨hb, htr⟩ := open_ok hc
  have hlen := hb.hs.tk
  have bn : ((0 : Int) != 0) = false := rfl
  rw [hc]
  simp (maxSteps := 2000000) only [vcA, ↓vcP, ↓reduceIte, reduceCtorEq, Nat.reduceAdd, Nat.reduceMul, Nat.reduceSub, Nat.reduceLT, Nat.reduceLeDiff, Nat.reduceEqDiff, Nat.reduceBEq, Nat.reduceBNe, Nat.reduceGT, Nat.reduceDiv, Nat.reduceMod, Int.reduceAdd, Int.reduceSub, Int.reduceNeg, Int.reduceLT, Int.reduceLE, Int.reduceEq, Int.reduceToNat, fA, bn]
  refine onF_data (isStuff_spec h s h1) ?_ ?_
  · simp (maxSteps := 2000000) only [okA, ↓okP, Nat.reduceAdd, Nat.reduceMul, Nat.reduceSub, Nat.reduceLT, Nat.reduceLeDiff, Nat.reduceEqDiff, Nat.reduceBEq, ↓reduceIte, reduceCtorEq]
  cases hw : isStuff h s with
  | false =>
    have e : liesErr h b s = 6 := by unfold liesErr; rw [if_neg (by rw [hc]; simp), hw]; rfl
    have e1 : weighErr h b s = 6 := by unfold weighErr; rw [e, if_pos (by decide)]
    have e2 : weighR h b s = (0, 0) := by unfold weighR; rw [e1, if_neg (by decide)]
    simp (maxSteps := 2000000) only [vcA, ↓vcP, ↓reduceIte, reduceCtorEq, Nat.reduceAdd, Nat.reduceMul, Nat.reduceSub, Nat.reduceLT, Nat.reduceLeDiff, Nat.reduceEqDiff, Nat.reduceBEq, Nat.reduceBNe, Nat.reduceGT, Nat.reduceDiv, Nat.reduceMod, Int.reduceAdd, Int.reduceSub, Int.reduceNeg, Int.reduceLT, Int.reduceLE, Int.reduceEq, Int.reduceToNat, fA]
    refine hR _ (fin_of0 ?_)
    rw [e1, e2]
    simp (maxSteps := 2000000) only [enA, ↓enP, Nat.reduceAdd, Nat.reduceMul, Nat.reduceSub, Nat.reduceLT, Nat.reduceLeDiff, Nat.reduceEqDiff, Nat.reduceBEq, ↓reduceIte, reduceCtorEq, fA]
  | true =>
    have e : liesErr h b s = 0 := by unfold liesErr; rw [if_neg (by rw [hc]; simp), hw]; rfl
    have e1 : weighErr h b s = if (weighN h b s 6).2 = 0 then 7 else 0 := by unfold weighErr; rw [if_neg (by rw [e]; simp)]
    have hs : 0 ≤ s ∧ s < h.tk.length := by have := betw1 hw; omega
    simp (maxSteps := 2000000) only [vcA, ↓vcP, ↓reduceIte, reduceCtorEq, Nat.reduceAdd, Nat.reduceMul, Nat.reduceSub, Nat.reduceLT, Nat.reduceLeDiff, Nat.reduceEqDiff, Nat.reduceBEq, Nat.reduceBNe, Nat.reduceGT, Nat.reduceDiv, Nat.reduceMod, Int.reduceAdd, Int.reduceSub, Int.reduceNeg, Int.reduceLT, Int.reduceLE, Int.reduceEq, Int.reduceToNat, fA]
    refine goC_loop (α := {w : Nat // w ≤ 6}) (fun x => ⟨[(2, .v (.int .i64 s)), (6, .v (.int .i64 (weighN h b s x.1).1)), (7, .v (.int .i64 (weighN h b s x.1).2)), (9, .ptr 88 0), (27, .v (.int .i64 x.1))], [(88, .box 74 [.v (.int .i64 h.sc), .sl 2 (h.tk.map spR), .sl 1 (h.lo.map iR), .sl 4 (b.map enR)])]⟩) (fun x => 6 - x.1) ⟨0, by omega⟩ [] ?_ ?_
    · simp (maxSteps := 2000000) only [enA, ↓enP, Nat.reduceAdd, Nat.reduceMul, Nat.reduceSub, Nat.reduceLT, Nat.reduceLeDiff, Nat.reduceEqDiff, Nat.reduceBEq, ↓reduceIte, reduceCtorEq, fA]
      exact ⟨rfl, rfl, rfl⟩
    intro x B hB
    obtain ⟨w, hw6⟩ := x
    by_cases c1 : w < 6
    · have q1 : ((w : Int) < 6) = True := eq_true (by omega)
      have e0 : IntKind.i64.wrap ((w : Int) + 1) = ((w + 1 : Nat) : Int) := wrap_id (by omega) (by omega)
      have t1 : weighN h b s (w + 1) = if (has (acc h b w s nof)).2 - (has (acc h b w s nof)).1 > (weighN h b s w).2 then ((w : Int), (has (acc h b w s nof)).2 - (has (acc h b w s nof)).1) else weighN h b s w := rfl
      generalize weighN h b s w = X1 at t1 ⊢
      have hbd := acc_bd hb (w := w) hs nof
      have ga := account_spec (fr := nof) h b w s hb hs fun i _ => none_spec i
      generalize acc h b w s nof = a at t1 hbd ga
      have ghb := has_bd hbd
      have w1 : IntKind.i64.wrap ((has a).2 - (has a).1) = (has a).2 - (has a).1 := wrap_id (by omega) (by omega)
      simp (maxSteps := 2000000) only [vcA, ↓vcP, ↓reduceIte, reduceCtorEq, Nat.reduceAdd, Nat.reduceMul, Nat.reduceSub, Nat.reduceLT, Nat.reduceLeDiff, Nat.reduceEqDiff, Nat.reduceBEq, Nat.reduceBNe, Nat.reduceGT, Nat.reduceDiv, Nat.reduceMod, Int.reduceAdd, Int.reduceSub, Int.reduceNeg, Int.reduceLT, Int.reduceLE, Int.reduceEq, Int.reduceToNat, fA, q1]
      refine onF_data ga ?_ ?_
      · simp (maxSteps := 2000000) only [okA, ↓okP, Nat.reduceAdd, Nat.reduceMul, Nat.reduceSub, Nat.reduceLT, Nat.reduceLeDiff, Nat.reduceEqDiff, Nat.reduceBEq, ↓reduceIte, reduceCtorEq]
      simp (maxSteps := 2000000) only [vcA, ↓vcP, ↓reduceIte, reduceCtorEq, Nat.reduceAdd, Nat.reduceMul, Nat.reduceSub, Nat.reduceLT, Nat.reduceLeDiff, Nat.reduceEqDiff, Nat.reduceBEq, Nat.reduceBNe, Nat.reduceGT, Nat.reduceDiv, Nat.reduceMod, Int.reduceAdd, Int.reduceSub, Int.reduceNeg, Int.reduceLT, Int.reduceLE, Int.reduceEq, Int.reduceToNat, fA, acA]
      refine onF_data (has_spec a hbd) ?_ ?_
      · simp (maxSteps := 2000000) only [okA, ↓okP, Nat.reduceAdd, Nat.reduceMul, Nat.reduceSub, Nat.reduceLT, Nat.reduceLeDiff, Nat.reduceEqDiff, Nat.reduceBEq, ↓reduceIte, reduceCtorEq, acA]
      simp (maxSteps := 2000000) only [vcA, ↓vcP, ↓reduceIte, reduceCtorEq, Nat.reduceAdd, Nat.reduceMul, Nat.reduceSub, Nat.reduceLT, Nat.reduceLeDiff, Nat.reduceEqDiff, Nat.reduceBEq, Nat.reduceBNe, Nat.reduceGT, Nat.reduceDiv, Nat.reduceMod, Int.reduceAdd, Int.reduceSub, Int.reduceNeg, Int.reduceLT, Int.reduceLE, Int.reduceEq, Int.reduceToNat, fA, w1]
      refine ⟨fun c => ?_, fun c => ?_⟩
      · repeat (first | refine ⟨by kernel_rfl, ?_⟩ | refine ⟨⟨by kernel_rfl, by kernel_rfl⟩, ?_⟩ | refine ⟨⟨by kernel_rfl, by kernel_rfl, by kernel_rfl⟩, ?_⟩ | refine ⟨⟨by kernel_rfl, by kernel_rfl, by kernel_rfl, by kernel_rfl⟩, ?_⟩ | refine ⟨⟨by kernel_rfl, by kernel_rfl, by kernel_rfl, by kernel_rfl, by kernel_rfl⟩, ?_⟩ | refine ⟨⟨by kernel_rfl, by kernel_rfl, by kernel_rfl, by kernel_rfl, by kernel_rfl, by kernel_rfl⟩, ?_⟩ | refine ⟨⟨by kernel_rfl, by kernel_rfl, by kernel_rfl, by kernel_rfl, by kernel_rfl, by kernel_rfl, by kernel_rfl⟩, ?_⟩ | refine ⟨⟨by kernel_rfl, by kernel_rfl, by kernel_rfl, by kernel_rfl, by kernel_rfl, by kernel_rfl, by kernel_rfl, by kernel_rfl⟩, ?_⟩ | refine ⟨⟨by kernel_rfl, by kernel_rfl, by kernel_rfl, by kernel_rfl, by kernel_rfl, by kernel_rfl, by kernel_rfl, by kernel_rfl, by kernel_rfl⟩, ?_⟩ | refine ⟨⟨by kernel_rfl, by kernel_rfl, by kernel_rfl, by kernel_rfl, by kernel_rfl, by kernel_rfl, by kernel_rfl, by kernel_rfl, by kernel_rfl, by kernel_rfl⟩, ?_⟩ | refine ⟨⟨by kernel_rfl, by kernel_rfl, by kernel_rfl, by kernel_rfl, by kernel_rfl, by kernel_rfl, by kernel_rfl, by kernel_rfl, by kernel_rfl, by kernel_rfl, by kernel_rfl⟩, ?_⟩ | refine ⟨⟨by kernel_rfl, by kernel_rfl, by kernel_rfl, by kernel_rfl, by kernel_rfl, by kernel_rfl, by kernel_rfl, by kernel_rfl, by kernel_rfl, by kernel_rfl, by kernel_rfl, by kernel_rfl⟩, ?_⟩ | refine ⟨⟨by kernel_rfl, by kernel_rfl, by kernel_rfl, by kernel_rfl, by kernel_rfl, by kernel_rfl, by kernel_rfl, by kernel_rfl, by kernel_rfl, by kernel_rfl, by kernel_rfl, by kernel_rfl, by kernel_rfl⟩, ?_⟩)
        rw [if_pos c] at t1
        refine hB _ ⟨w + 1, by omega⟩ [] (by simp only; omega) rfl ?_
        rw [t1]
        simp (maxSteps := 2000000) only [enA, ↓enP, Nat.reduceAdd, Nat.reduceMul, Nat.reduceSub, Nat.reduceLT, Nat.reduceLeDiff, Nat.reduceEqDiff, Nat.reduceBEq, ↓reduceIte, reduceCtorEq, fA, e0]
      · rw [if_neg (by omega)] at t1
        refine hB _ ⟨w + 1, by omega⟩ [] (by simp only; omega) rfl ?_
        rw [t1]
        simp (maxSteps := 2000000) only [enA, ↓enP, Nat.reduceAdd, Nat.reduceMul, Nat.reduceSub, Nat.reduceLT, Nat.reduceLeDiff, Nat.reduceEqDiff, Nat.reduceBEq, ↓reduceIte, reduceCtorEq, fA, e0]
    · have q1 : ((w : Int) < 6) = False := eq_false (by omega)
      have : w = 6 := by omega
      subst this
      by_cases c2 : (weighN h b s 6).2 = 0
      · have q2 : ((weighN h b s 6).2 == 0) = true := by simpa using c2
        have e3 : weighErr h b s = 7 := by rw [e1, if_pos c2]
        have e4 : weighR h b s = (0, 0) := by unfold weighR; rw [e3, if_neg (by decide)]
        simp (maxSteps := 2000000) only [vcA, ↓vcP, ↓reduceIte, reduceCtorEq, Nat.reduceAdd, Nat.reduceMul, Nat.reduceSub, Nat.reduceLT, Nat.reduceLeDiff, Nat.reduceEqDiff, Nat.reduceBEq, Nat.reduceBNe, Nat.reduceGT, Nat.reduceDiv, Nat.reduceMod, Int.reduceAdd, Int.reduceSub, Int.reduceNeg, Int.reduceLT, Int.reduceLE, Int.reduceEq, Int.reduceToNat, fA, q1, q2]
        refine hR _ (fin_of0 ?_)
        rw [e3, e4]
        simp (maxSteps := 2000000) only [enA, ↓enP, Nat.reduceAdd, Nat.reduceMul, Nat.reduceSub, Nat.reduceLT, Nat.reduceLeDiff, Nat.reduceEqDiff, Nat.reduceBEq, ↓reduceIte, reduceCtorEq, fA]
      · have q2 : ((weighN h b s 6).2 == 0) = false := by simpa using c2
        have e3 : weighErr h b s = 0 := by rw [e1, if_neg c2]
        have e4 : weighR h b s = weighN h b s 6 := by unfold weighR; rw [e3, if_pos rfl]
        simp (maxSteps := 2000000) only [vcA, ↓vcP, ↓reduceIte, reduceCtorEq, Nat.reduceAdd, Nat.reduceMul, Nat.reduceSub, Nat.reduceLT, Nat.reduceLeDiff, Nat.reduceEqDiff, Nat.reduceBEq, Nat.reduceBNe, Nat.reduceGT, Nat.reduceDiv, Nat.reduceMod, Int.reduceAdd, Int.reduceSub, Int.reduceNeg, Int.reduceLT, Int.reduceLE, Int.reduceEq, Int.reduceToNat, fA, q1, q2]
        refine hR _ (fin_of0 ?_)
        rw [e3, e4]
        simp (maxSteps := 2000000) only [enA, ↓enP, Nat.reduceAdd, Nat.reduceMul, Nat.reduceSub, Nat.reduceLT, Nat.reduceLeDiff, Nat.reduceEqDiff, Nat.reduceBEq, ↓reduceIte, reduceCtorEq, fA]
end Go.Proofs.Ytninkfpeeemcoaa.Ab.T07
namespace Go.Proofs.Ytninkfpeeemcoaa.Ab.T07
open Go Go.RowKit
set_option linter.unusedVariables false
set_option linter.unusedSimpArgs false
set_option maxRecDepth 100000
def mvN (h : Hs) (b : List En) (s : Int) : Nat → Int × Int
  | 0 => (0, 0)
  | n + 1 => ((mvN h b s n).1 - min 0 (high (acc h b n s nof)), (mvN h b s n).2 + high (acc h b n s nof))
theorem mvN_bd {h : Hs} {b : List En} (hb : Ok h b) {s : Int} (hs : 0 ≤ s ∧ s < h.tk.length) : ∀ n : Nat, 0 ≤ (mvN h b s n).1 ∧ (mvN h b s n).1 ≤ 10000000 * n ∧ -10000000 * (n : Int) ≤ (mvN h b s n).2 ∧ (mvN h b s n).2 ≤ 10000000 * n
  | 0 => by simp [mvN]
  | n + 1 => by
    have i := mvN_bd hb hs n
    have g := high_bd (acc_bd hb (w := n) hs nof)
    simp only [mvN]
    omega
def movedL (h : Hs) (b : List En) (n : Nat) : List Int := (List.range n).map fun s : Nat => (mvN h b s 6).1
theorem movedL_len (h : Hs) (b : List En) (n : Nat) : (movedL h b n).length = n := by simp [movedL]
theorem movedL_succ (h : Hs) (b : List En) (n : Nat) : movedL h b (n + 1) = movedL h b n ++ [(mvN h b n 6).1] := by unfold movedL; rw [List.range_succ, List.map_append]; rfl
def movedBad (h : Hs) (b : List En) : Bool := (List.range h.tk.length).any fun s : Nat => decide ((mvN h b s 6).2 < 0)
def movedErr (h : Hs) (b : List En) : Int := if checkErr h b ≠ 0 then checkErr h b else if movedBad h b then 7 else 0
def movedR (h : Hs) (b : List En) : List Int := if movedErr h b = 0 then movedL h b h.tk.length else []
set_option maxHeartbeats 4000000 in
theorem moved1_spec (h : Hs) (b : List En) (h1 : h.tk.length < 1000000) (h2 : h.lo.length < 1000000) (h3 : b.length < 1000000) : SpecF Try.prog 17 [.agg [.v (.int .i64 h.sc), .sl 2 (h.tk.map spR), .sl 1 (h.lo.map iR)], .sl 4 (b.map enR)] (.tup [.ob 0 (movedR h b).length, .v (.int .i64 (movedErr h b))]) [.row 3 1 ((movedR h b).map iR) false] := by
  refine spec_go (N := 51) (rs := [.tmp 4, .tmp 5]) (eq := eqs) rfl rfl fun_17 rfl (by kernel_rfl) (by kernel_rfl) (by simp) (by simp) (by simp) (by simp) fun R hR => ?_
  simp (maxSteps := 2000000) only [vcA, ↓vcP, ↓reduceIte, reduceCtorEq, Nat.reduceAdd, Nat.reduceMul, Nat.reduceSub, Nat.reduceLT, Nat.reduceLeDiff, Nat.reduceEqDiff, Nat.reduceBEq, Nat.reduceBNe, Nat.reduceGT, Nat.reduceDiv, Nat.reduceMod, Int.reduceAdd, Int.reduceSub, Int.reduceNeg, Int.reduceLT, Int.reduceLE, Int.reduceEq, Int.reduceToNat, fA]
  refine onF_data (check_spec h b h1 h2 h3) ?_ ?_
  · simp (maxSteps := 2000000) only [okA, ↓okP, Nat.reduceAdd, Nat.reduceMul, Nat.reduceSub, Nat.reduceLT, Nat.reduceLeDiff, Nat.reduceEqDiff, Nat.reduceBEq, ↓reduceIte, reduceCtorEq]
  by_cases hc : checkErr h b ≠ 0
  · have bn : (checkErr h b != 0) = true := by simpa using hc
    have e : movedErr h b = checkErr h b := by unfold movedErr; rw [if_pos hc]
    have e2 : movedR h b = [] := by unfold movedR; rw [e, if_neg hc]
    simp (maxSteps := 2000000) only [vcA, ↓vcP, ↓reduceIte, reduceCtorEq, Nat.reduceAdd, Nat.reduceMul, Nat.reduceSub, Nat.reduceLT, Nat.reduceLeDiff, Nat.reduceEqDiff, Nat.reduceBEq, Nat.reduceBNe, Nat.reduceGT, Nat.reduceDiv, Nat.reduceMod, Int.reduceAdd, Int.reduceSub, Int.reduceNeg, Int.reduceLT, Int.reduceLE, Int.reduceEq, Int.reduceToNat, fA, bn]
    repeat (first | refine ⟨by kernel_rfl, ?_⟩ | refine ⟨⟨by kernel_rfl, by kernel_rfl⟩, ?_⟩ | refine ⟨⟨by kernel_rfl, by kernel_rfl, by kernel_rfl⟩, ?_⟩ | refine ⟨⟨by kernel_rfl, by kernel_rfl, by kernel_rfl, by kernel_rfl⟩, ?_⟩ | refine ⟨⟨by kernel_rfl, by kernel_rfl, by kernel_rfl, by kernel_rfl, by kernel_rfl⟩, ?_⟩ | refine ⟨⟨by kernel_rfl, by kernel_rfl, by kernel_rfl, by kernel_rfl, by kernel_rfl, by kernel_rfl⟩, ?_⟩ | refine ⟨⟨by kernel_rfl, by kernel_rfl, by kernel_rfl, by kernel_rfl, by kernel_rfl, by kernel_rfl, by kernel_rfl⟩, ?_⟩ | refine ⟨⟨by kernel_rfl, by kernel_rfl, by kernel_rfl, by kernel_rfl, by kernel_rfl, by kernel_rfl, by kernel_rfl, by kernel_rfl⟩, ?_⟩ | refine ⟨⟨by kernel_rfl, by kernel_rfl, by kernel_rfl, by kernel_rfl, by kernel_rfl, by kernel_rfl, by kernel_rfl, by kernel_rfl, by kernel_rfl⟩, ?_⟩ | refine ⟨⟨by kernel_rfl, by kernel_rfl, by kernel_rfl, by kernel_rfl, by kernel_rfl, by kernel_rfl, by kernel_rfl, by kernel_rfl, by kernel_rfl, by kernel_rfl⟩, ?_⟩ | refine ⟨⟨by kernel_rfl, by kernel_rfl, by kernel_rfl, by kernel_rfl, by kernel_rfl, by kernel_rfl, by kernel_rfl, by kernel_rfl, by kernel_rfl, by kernel_rfl, by kernel_rfl⟩, ?_⟩ | refine ⟨⟨by kernel_rfl, by kernel_rfl, by kernel_rfl, by kernel_rfl, by kernel_rfl, by kernel_rfl, by kernel_rfl, by kernel_rfl, by kernel_rfl, by kernel_rfl, by kernel_rfl, by kernel_rfl⟩, ?_⟩ | refine ⟨⟨by kernel_rfl, by kernel_rfl, by kernel_rfl, by kernel_rfl, by kernel_rfl, by kernel_rfl, by kernel_rfl, by kernel_rfl, by kernel_rfl, by kernel_rfl, by kernel_rfl, by kernel_rfl, by kernel_rfl⟩, ?_⟩)
    refine hR _ (fin_of1 [none] ?_)
    rw [e, e2]
    simp (maxSteps := 2000000) only [enA, ↓enP, Nat.reduceAdd, Nat.reduceMul, Nat.reduceSub, Nat.reduceLT, Nat.reduceLeDiff, Nat.reduceEqDiff, Nat.reduceBEq, ↓reduceIte, reduceCtorEq, fA]
  have hc : checkErr h b = 0 := by simpa using hc
  have hb := check_ok hc
  have hlen := hb.hs.tk
  have bn : ((0 : Int) != 0) = false := rfl
  have e : movedErr h b = if movedBad h b then 7 else 0 := by unfold movedErr; rw [if_neg (by rw [hc]; simp)]
  rw [hc]
  simp (maxSteps := 2000000) only [vcA, ↓vcP, ↓reduceIte, reduceCtorEq, Nat.reduceAdd, Nat.reduceMul, Nat.reduceSub, Nat.reduceLT, Nat.reduceLeDiff, Nat.reduceEqDiff, Nat.reduceBEq, Nat.reduceBNe, Nat.reduceGT, Nat.reduceDiv, Nat.reduceMod, Int.reduceAdd, Int.reduceSub, Int.reduceNeg, Int.reduceLT, Int.reduceLE, Int.reduceEq, Int.reduceToNat, fA, bn]
  repeat (first | refine ⟨by kernel_rfl, ?_⟩ | refine ⟨⟨by kernel_rfl, by kernel_rfl⟩, ?_⟩ | refine ⟨⟨by kernel_rfl, by kernel_rfl, by kernel_rfl⟩, ?_⟩ | refine ⟨⟨by kernel_rfl, by kernel_rfl, by kernel_rfl, by kernel_rfl⟩, ?_⟩ | refine ⟨⟨by kernel_rfl, by kernel_rfl, by kernel_rfl, by kernel_rfl, by kernel_rfl⟩, ?_⟩ | refine ⟨⟨by kernel_rfl, by kernel_rfl, by kernel_rfl, by kernel_rfl, by kernel_rfl, by kernel_rfl⟩, ?_⟩ | refine ⟨⟨by kernel_rfl, by kernel_rfl, by kernel_rfl, by kernel_rfl, by kernel_rfl, by kernel_rfl, by kernel_rfl⟩, ?_⟩ | refine ⟨⟨by kernel_rfl, by kernel_rfl, by kernel_rfl, by kernel_rfl, by kernel_rfl, by kernel_rfl, by kernel_rfl, by kernel_rfl⟩, ?_⟩ | refine ⟨⟨by kernel_rfl, by kernel_rfl, by kernel_rfl, by kernel_rfl, by kernel_rfl, by kernel_rfl, by kernel_rfl, by kernel_rfl, by kernel_rfl⟩, ?_⟩ | refine ⟨⟨by kernel_rfl, by kernel_rfl, by kernel_rfl, by kernel_rfl, by kernel_rfl, by kernel_rfl, by kernel_rfl, by kernel_rfl, by kernel_rfl, by kernel_rfl⟩, ?_⟩ | refine ⟨⟨by kernel_rfl, by kernel_rfl, by kernel_rfl, by kernel_rfl, by kernel_rfl, by kernel_rfl, by kernel_rfl, by kernel_rfl, by kernel_rfl, by kernel_rfl, by kernel_rfl⟩, ?_⟩ | refine ⟨⟨by kernel_rfl, by kernel_rfl, by kernel_rfl, by kernel_rfl, by kernel_rfl, by kernel_rfl, by kernel_rfl, by kernel_rfl, by kernel_rfl, by kernel_rfl, by kernel_rfl, by kernel_rfl⟩, ?_⟩ | refine ⟨⟨by kernel_rfl, by kernel_rfl, by kernel_rfl, by kernel_rfl, by kernel_rfl, by kernel_rfl, by kernel_rfl, by kernel_rfl, by kernel_rfl, by kernel_rfl, by kernel_rfl, by kernel_rfl, by kernel_rfl⟩, ?_⟩)
  refine goC_loop (α := {i : Nat // i ≤ h.tk.length ∧ ∀ j : Nat, j < i → 0 ≤ (mvN h b j 6).2}) (fun x => ⟨[(2, .ptr 8 0), (4, .ob 152 x.1), (6, .ptr 80 0), (22, .sl 2 (h.tk.map spR)), (23, .v (.int .i64 h.tk.length)), (24, .v (.int .i64 x.1))], [(8, .box 30 [.v (.int .i64 h.sc), .sl 2 (h.tk.map spR), .sl 1 (h.lo.map iR)]), (80, .box 74 [.v (.int .i64 h.sc), .sl 2 (h.tk.map spR), .sl 1 (h.lo.map iR), .sl 4 (b.map enR)]), (152, .row 3 1 ((movedL h b x.1).map iR) false)]⟩) (fun x => h.tk.length - x.1) ⟨0, by omega, by omega⟩ [none] ?_ ?_
  · simp (maxSteps := 2000000) only [enA, ↓enP, Nat.reduceAdd, Nat.reduceMul, Nat.reduceSub, Nat.reduceLT, Nat.reduceLeDiff, Nat.reduceEqDiff, Nat.reduceBEq, ↓reduceIte, reduceCtorEq, fA]
    exact ⟨rfl, rfl⟩
  intro x B hB
  obtain ⟨i, hi, hx⟩ := x
  have hl := movedL_len h b i
  have hm : (movedL h b i).length + 1 ≤ maxLen := by rw [hl]; simp only [maxLen]; omega
  by_cases c1 : i < h.tk.length
  · have q1 : (i < h.tk.length) = True := eq_true c1
    have e0 : IntKind.i64.wrap ((i : Int) + 1) = ((i + 1 : Nat) : Int) := wrap_id (by omega) (by omega)
    have hsi : 0 ≤ (i : Int) ∧ (i : Int) < h.tk.length := by omega
    simp (maxSteps := 2000000) only [vcA, ↓vcP, ↓reduceIte, reduceCtorEq, Nat.reduceAdd, Nat.reduceMul, Nat.reduceSub, Nat.reduceLT, Nat.reduceLeDiff, Nat.reduceEqDiff, Nat.reduceBEq, Nat.reduceBNe, Nat.reduceGT, Nat.reduceDiv, Nat.reduceMod, Int.reduceAdd, Int.reduceSub, Int.reduceNeg, Int.reduceLT, Int.reduceLE, Int.reduceEq, Int.reduceToNat, fA, q1]
    refine goC_loop (α := {w : Nat // w ≤ 6}) (fun x => ⟨[(2, .ptr 8 0), (4, .ob 152 i), (6, .ptr 80 0), (7, .v (.int .i64 i)), (8, .v (.int .i64 (mvN h b i x.1).1)), (9, .v (.int .i64 (mvN h b i x.1).2)), (22, .sl 2 (h.tk.map spR)), (23, .v (.int .i64 h.tk.length)), (24, .v (.int .i64 i)), (27, .v (.int .i64 x.1))], [(8, .box 30 [.v (.int .i64 h.sc), .sl 2 (h.tk.map spR), .sl 1 (h.lo.map iR)]), (80, .box 74 [.v (.int .i64 h.sc), .sl 2 (h.tk.map spR), .sl 1 (h.lo.map iR), .sl 4 (b.map enR)]), (152, .row 3 1 ((movedL h b i).map iR) false)]⟩) (fun x => 6 - x.1) ⟨0, by omega⟩ [] ?_ ?_
    · simp (maxSteps := 2000000) only [enA, ↓enP, Nat.reduceAdd, Nat.reduceMul, Nat.reduceSub, Nat.reduceLT, Nat.reduceLeDiff, Nat.reduceEqDiff, Nat.reduceBEq, ↓reduceIte, reduceCtorEq, fA]
      exact ⟨rfl, rfl, rfl⟩
    intro x B2 hB2
    obtain ⟨w, hw⟩ := x
    have bd := mvN_bd hb hsi w
    by_cases c2 : w < 6
    · have q2 : ((w : Int) < 6) = True := eq_true (by omega)
      have e3 : IntKind.i64.wrap ((w : Int) + 1) = ((w + 1 : Nat) : Int) := wrap_id (by omega) (by omega)
      have t1 : mvN h b i (w + 1) = ((mvN h b i w).1 - min 0 (high (acc h b w i nof)), (mvN h b i w).2 + high (acc h b w i nof)) := rfl
      generalize mvN h b i w = X at bd t1 ⊢
      have hbd := acc_bd hb (w := w) hsi nof
      have ga := account_spec (fr := nof) h b w i hb hsi fun i _ => none_spec i
      generalize acc h b w i nof = a at t1 hbd ga
      have ghi := high_bd hbd
      have w1 : IntKind.i64.wrap (X.1 - min 0 (high a)) = X.1 - min 0 (high a) := wrap_id (by omega) (by omega)
      have w2 : IntKind.i64.wrap (X.2 + high a) = X.2 + high a := wrap_id (by omega) (by omega)
      simp (maxSteps := 2000000) only [vcA, ↓vcP, ↓reduceIte, reduceCtorEq, Nat.reduceAdd, Nat.reduceMul, Nat.reduceSub, Nat.reduceLT, Nat.reduceLeDiff, Nat.reduceEqDiff, Nat.reduceBEq, Nat.reduceBNe, Nat.reduceGT, Nat.reduceDiv, Nat.reduceMod, Int.reduceAdd, Int.reduceSub, Int.reduceNeg, Int.reduceLT, Int.reduceLE, Int.reduceEq, Int.reduceToNat, fA, q2]
      refine onF_data ga ?_ ?_
      · simp (maxSteps := 2000000) only [okA, ↓okP, Nat.reduceAdd, Nat.reduceMul, Nat.reduceSub, Nat.reduceLT, Nat.reduceLeDiff, Nat.reduceEqDiff, Nat.reduceBEq, ↓reduceIte, reduceCtorEq]
      simp (maxSteps := 2000000) only [vcA, ↓vcP, ↓reduceIte, reduceCtorEq, Nat.reduceAdd, Nat.reduceMul, Nat.reduceSub, Nat.reduceLT, Nat.reduceLeDiff, Nat.reduceEqDiff, Nat.reduceBEq, Nat.reduceBNe, Nat.reduceGT, Nat.reduceDiv, Nat.reduceMod, Int.reduceAdd, Int.reduceSub, Int.reduceNeg, Int.reduceLT, Int.reduceLE, Int.reduceEq, Int.reduceToNat, fA, acA]
      refine onF_data (high_spec a hbd) ?_ ?_
      · simp (maxSteps := 2000000) only [okA, ↓okP, Nat.reduceAdd, Nat.reduceMul, Nat.reduceSub, Nat.reduceLT, Nat.reduceLeDiff, Nat.reduceEqDiff, Nat.reduceBEq, ↓reduceIte, reduceCtorEq, acA]
      simp (maxSteps := 2000000) only [vcA, ↓vcP, ↓reduceIte, reduceCtorEq, Nat.reduceAdd, Nat.reduceMul, Nat.reduceSub, Nat.reduceLT, Nat.reduceLeDiff, Nat.reduceEqDiff, Nat.reduceBEq, Nat.reduceBNe, Nat.reduceGT, Nat.reduceDiv, Nat.reduceMod, Int.reduceAdd, Int.reduceSub, Int.reduceNeg, Int.reduceLT, Int.reduceLE, Int.reduceEq, Int.reduceToNat, fA, w1, w2, e3]
      refine hB2 _ ⟨w + 1, by omega⟩ [] (by simp only; omega) rfl ?_
      rw [t1]
      simp (maxSteps := 2000000) only [enA, ↓enP, Nat.reduceAdd, Nat.reduceMul, Nat.reduceSub, Nat.reduceLT, Nat.reduceLeDiff, Nat.reduceEqDiff, Nat.reduceBEq, ↓reduceIte, reduceCtorEq, fA]
    · have q2 : ((w : Int) < 6) = False := eq_false (by omega)
      have : w = 6 := by omega
      subst this
      by_cases c3 : (mvN h b i 6).2 < 0
      · have q3 : ((mvN h b i 6).2 < 0) = True := eq_true c3
        have e4 : movedErr h b = 7 := by
          rw [e, if_pos]
          exact List.any_eq_true.2 ⟨i, List.mem_range.2 c1, decide_eq_true c3⟩
        have e5 : movedR h b = [] := by unfold movedR; rw [e4, if_neg (by decide)]
        simp (maxSteps := 2000000) only [vcA, ↓vcP, ↓reduceIte, reduceCtorEq, Nat.reduceAdd, Nat.reduceMul, Nat.reduceSub, Nat.reduceLT, Nat.reduceLeDiff, Nat.reduceEqDiff, Nat.reduceBEq, Nat.reduceBNe, Nat.reduceGT, Nat.reduceDiv, Nat.reduceMod, Int.reduceAdd, Int.reduceSub, Int.reduceNeg, Int.reduceLT, Int.reduceLE, Int.reduceEq, Int.reduceToNat, fA, q2, q3]
        refine hR _ (fin_of1 [none] ?_)
        rw [e4, e5]
        simp (maxSteps := 2000000) only [enA, ↓enP, Nat.reduceAdd, Nat.reduceMul, Nat.reduceSub, Nat.reduceLT, Nat.reduceLeDiff, Nat.reduceEqDiff, Nat.reduceBEq, ↓reduceIte, reduceCtorEq, fA]
      · have q3 : ((mvN h b i 6).2 < 0) = False := eq_false c3
        simp (maxSteps := 2000000) only [vcA, ↓vcP, ↓reduceIte, reduceCtorEq, Nat.reduceAdd, Nat.reduceMul, Nat.reduceSub, Nat.reduceLT, Nat.reduceLeDiff, Nat.reduceEqDiff, Nat.reduceBEq, Nat.reduceBNe, Nat.reduceGT, Nat.reduceDiv, Nat.reduceMod, Int.reduceAdd, Int.reduceSub, Int.reduceNeg, Int.reduceLT, Int.reduceLE, Int.reduceEq, Int.reduceToNat, fA, q2, q3]
        refine ⟨⟨by omega, by simp only [maxLen]; omega⟩, fun _ => ?_⟩
        refine hB _ ⟨i + 1, by omega, fun j hj => ?_⟩ [some 312] (by simp only; omega) rfl ?_
        · by_cases e : j = i
          · rw [e]; omega
          · exact hx j (by omega)
        · rw [movedL_succ]
          simp (maxSteps := 2000000) only [enA, ↓enP, Nat.reduceAdd, Nat.reduceMul, Nat.reduceSub, Nat.reduceLT, Nat.reduceLeDiff, Nat.reduceEqDiff, Nat.reduceBEq, ↓reduceIte, reduceCtorEq, fA, e0, hl]
          try simp [iR]
  · have q1 : (i < h.tk.length) = False := eq_false c1
    have : i = h.tk.length := by omega
    subst this
    have e4 : movedErr h b = 0 := by
      rw [e, if_neg]
      intro ha
      obtain ⟨j, hj, hd⟩ := List.any_eq_true.1 ha
      have := hx j (List.mem_range.1 hj)
      have := of_decide_eq_true hd
      omega
    have e5 : movedR h b = movedL h b h.tk.length := by unfold movedR; rw [e4, if_pos rfl]
    simp (maxSteps := 2000000) only [vcA, ↓vcP, ↓reduceIte, reduceCtorEq, Nat.reduceAdd, Nat.reduceMul, Nat.reduceSub, Nat.reduceLT, Nat.reduceLeDiff, Nat.reduceEqDiff, Nat.reduceBEq, Nat.reduceBNe, Nat.reduceGT, Nat.reduceDiv, Nat.reduceMod, Int.reduceAdd, Int.reduceSub, Int.reduceNeg, Int.reduceLT, Int.reduceLE, Int.reduceEq, Int.reduceToNat, fA, q1]
    refine hR _ (fin_of1 [some 152] ?_)
    rw [e4, e5]
    simp (maxSteps := 2000000) only [enA, ↓enP, Nat.reduceAdd, Nat.reduceMul, Nat.reduceSub, Nat.reduceLT, Nat.reduceLeDiff, Nat.reduceEqDiff, Nat.reduceBEq, ↓reduceIte, reduceCtorEq, fA]
    exact hl.symm
/-- The least number for which something holds, by halves; the last one that was tried. -/
def leastL (p : Int → Bool) : Nat → Int → Int → Int → Int × Int
  | 0, f, _, c => (f, c)
  | k + 1, f, m, c => if f < m then (if p ((f + m) / 2) then leastL p k f ((f + m) / 2) ((f + m) / 2) else leastL p k ((f + m) / 2 + 1) m ((f + m) / 2)) else (f, c)
def leastP (p : Int → Bool) (most c : Int) : Int × Int := leastL p (most + 1).toNat 0 (most + 1) c
theorem leastL_end {p : Int → Bool} {f m c : Int} (h : ¬ f < m) : ∀ k, leastL p k f m c = (f, c)
  | 0 => rfl
  | k + 1 => by rw [leastL, if_neg h]
theorem leastL_step {p : Int → Bool} {f m c : Int} {k : Nat} (h : f < m) (hk : (m - f).toNat ≤ k) : leastL p k f m c = leastL p (k - 1) (if p ((f + m) / 2) then f else (f + m) / 2 + 1) (if p ((f + m) / 2) then (f + m) / 2 else m) ((f + m) / 2) := by
  obtain ⟨k, rfl⟩ : ∃ j, k = j + 1 := ⟨k - 1, by omega⟩
  rw [leastL, if_pos h, Nat.add_sub_cancel]
  cases p ((f + m) / 2) <;> rfl

theorem leastG_spec {g : FuncId} {p : Int → Bool} (h : Hs) (i need : Int) (most c0 : Int) (hm : 0 ≤ most ∧ most ≤ 1000000) (hg : ∀ n c : Int, 0 ≤ n → n ≤ most → SpecG Try.prog g [.v (.int .i64 n), .ptr 0 0, .ptr 1 0, .ptr 2 0] [.box 30 [.v (.int .i64 h.sc), .sl 2 (h.tk.map spR), .sl 1 (h.lo.map iR)], .box 3 [.v (.int .i64 i)], .box 3 [.v (.int .i64 need)]] (.v (.bool (p n))) [.box 30 [.v (.int .i64 h.sc), .sl 2 (h.tk.map spR), .sl 1 (h.lo.map iR)], .box 3 [.v (.int .i64 i)], .box 3 [.v (.int .i64 need)]]) : SpecG Try.prog 44 [.v (.int .i64 most), .fn g [.ptr 0 0, .ptr 1 0, .ptr 2 0]] [.box 30 [.v (.int .i64 h.sc), .sl 2 (h.tk.map spR), .sl 1 (h.lo.map iR)], .box 3 [.v (.int .i64 i)], .box 3 [.v (.int .i64 need)]] (.v (.int .i64 (leastP p most c0).1)) [.box 30 [.v (.int .i64 h.sc), .sl 2 (h.tk.map spR), .sl 1 (h.lo.map iR)], .box 3 [.v (.int .i64 i)], .box 3 [.v (.int .i64 need)]] := by
  have w0 : IntKind.i64.wrap (most + 1) = most + 1 := wrap_id (by omega) (by omega)
  refine spec_go (N := 24) (rs := [.tmp 4]) (eq := eqs) rfl rfl fun_44 rfl (by kernel_rfl) (by kernel_rfl) (by simp) (by simp) (by simp) (by simp) fun R hR => ?_
  simp (maxSteps := 2000000) only [vcA, ↓vcP, ↓reduceIte, reduceCtorEq, Nat.reduceAdd, Nat.reduceMul, Nat.reduceSub, Nat.reduceLT, Nat.reduceLeDiff, Nat.reduceEqDiff, Nat.reduceBEq, Nat.reduceBNe, Nat.reduceGT, Nat.reduceDiv, Nat.reduceMod, Int.reduceAdd, Int.reduceSub, Int.reduceNeg, Int.reduceLT, Int.reduceLE, Int.reduceEq, Int.reduceToNat, fA, w0]
  refine goC_loop (α := {y : Int × Int × Int × Nat // 0 ≤ y.1 ∧ y.1 ≤ y.2.1 ∧ y.2.1 ≤ most + 1 ∧ (y.2.1 - y.1).toNat ≤ y.2.2.2 ∧ leastL p y.2.2.2 y.1 y.2.1 y.2.2.1 = leastP p most c0}) (fun x => ⟨[(1, .fn g [.ptr 0 0, .ptr 1 0, .ptr 2 0]), (5, .v (.int .i64 x.1.1)), (6, .v (.int .i64 x.1.2.1))], [(0, .box 30 [.v (.int .i64 h.sc), .sl 2 (h.tk.map spR), .sl 1 (h.lo.map iR)]), (1, .box 3 [.v (.int .i64 i)]), (2, .box 3 [.v (.int .i64 need)])]⟩) (fun x => (x.1.2.1 - x.1.1).toNat) ⟨(0, most + 1, c0, (most + 1).toNat), by simp only; omega, by simp only; omega, by simp only; omega, by simp only; omega, rfl⟩ [] ?_ ?_
  · simp (maxSteps := 2000000) only [enA, ↓enP, Nat.reduceAdd, Nat.reduceMul, Nat.reduceSub, Nat.reduceLT, Nat.reduceLeDiff, Nat.reduceEqDiff, Nat.reduceBEq, ↓reduceIte, reduceCtorEq, fA]
  intro x B hB
  obtain ⟨⟨f, m, c, k⟩, h1, h2, h3, h4, h5⟩ := x
  simp only at h1 h2 h3 h4 h5
  by_cases c1 : f < m
  · have q1 : (f < m) = True := eq_true c1
    have e1 : IntKind.i64.wrap (f + m) = f + m := wrap_id (by omega) (by omega)
    have e2 : (f + m).tdiv 2 = (f + m) / 2 := quo_of (by omega)
    have e3 : IntKind.i64.wrap ((f + m) / 2) = (f + m) / 2 := wrap_id (by omega) (by omega)
    have e4 : IntKind.i64.wrap ((f + m) / 2 + 1) = (f + m) / 2 + 1 := wrap_id (by omega) (by omega)
    have hst := leastL_step (p := p) (c := c) c1 h4
    have hgm := hg ((f + m) / 2) c (by omega) (by omega)
    simp (maxSteps := 2000000) only [vcA, ↓vcP, ↓reduceIte, reduceCtorEq, Nat.reduceAdd, Nat.reduceMul, Nat.reduceSub, Nat.reduceLT, Nat.reduceLeDiff, Nat.reduceEqDiff, Nat.reduceBEq, Nat.reduceBNe, Nat.reduceGT, Nat.reduceDiv, Nat.reduceMod, Int.reduceAdd, Int.reduceSub, Int.reduceNeg, Int.reduceLT, Int.reduceLE, Int.reduceEq, Int.reduceToNat, fA, q1, e1, e2, e3]
    refine onF_call hgm [] [] [0, 1, 2] ?_ ?_
    · simp (maxSteps := 2000000) only [okA, ↓okP, Nat.reduceAdd, Nat.reduceMul, Nat.reduceSub, Nat.reduceLT, Nat.reduceLeDiff, Nat.reduceEqDiff, Nat.reduceBEq, ↓reduceIte, reduceCtorEq]
    cases hp : p ((f + m) / 2) with
    | true =>
      rw [hp, if_pos rfl, if_pos rfl] at hst
      simp (maxSteps := 2000000) only [vcA, ↓vcP, ↓reduceIte, reduceCtorEq, Nat.reduceAdd, Nat.reduceMul, Nat.reduceSub, Nat.reduceLT, Nat.reduceLeDiff, Nat.reduceEqDiff, Nat.reduceBEq, Nat.reduceBNe, Nat.reduceGT, Nat.reduceDiv, Nat.reduceMod, Int.reduceAdd, Int.reduceSub, Int.reduceNeg, Int.reduceLT, Int.reduceLE, Int.reduceEq, Int.reduceToNat, fA]
      refine hB _ ⟨(f, (f + m) / 2, (f + m) / 2, k - 1), by simp only; omega, by simp only; omega, by simp only; omega, by simp only; omega, by rw [← h5, hst]⟩ [] (by simp only; omega) rfl ?_
      simp (maxSteps := 2000000) only [enA, ↓enP, Nat.reduceAdd, Nat.reduceMul, Nat.reduceSub, Nat.reduceLT, Nat.reduceLeDiff, Nat.reduceEqDiff, Nat.reduceBEq, ↓reduceIte, reduceCtorEq, fA]
    | false =>
      rw [hp] at hst
      simp only [Bool.false_eq_true, if_false] at hst
      simp (maxSteps := 2000000) only [vcA, ↓vcP, ↓reduceIte, reduceCtorEq, Nat.reduceAdd, Nat.reduceMul, Nat.reduceSub, Nat.reduceLT, Nat.reduceLeDiff, Nat.reduceEqDiff, Nat.reduceBEq, Nat.reduceBNe, Nat.reduceGT, Nat.reduceDiv, Nat.reduceMod, Int.reduceAdd, Int.reduceSub, Int.reduceNeg, Int.reduceLT, Int.reduceLE, Int.reduceEq, Int.reduceToNat, fA, e4]
      refine hB _ ⟨((f + m) / 2 + 1, m, (f + m) / 2, k - 1), by simp only; omega, by simp only; omega, by simp only; omega, by simp only; omega, by rw [← h5, hst]⟩ [] (by simp only; omega) rfl ?_
      simp (maxSteps := 2000000) only [enA, ↓enP, Nat.reduceAdd, Nat.reduceMul, Nat.reduceSub, Nat.reduceLT, Nat.reduceLeDiff, Nat.reduceEqDiff, Nat.reduceBEq, ↓reduceIte, reduceCtorEq, fA]
  · have q1 : (f < m) = False := eq_false c1
    rw [leastL_end c1] at h5
    simp (maxSteps := 2000000) only [vcA, ↓vcP, ↓reduceIte, reduceCtorEq, Nat.reduceAdd, Nat.reduceMul, Nat.reduceSub, Nat.reduceLT, Nat.reduceLeDiff, Nat.reduceEqDiff, Nat.reduceBEq, Nat.reduceBNe, Nat.reduceGT, Nat.reduceDiv, Nat.reduceMod, Int.reduceAdd, Int.reduceSub, Int.reduceNeg, Int.reduceLT, Int.reduceLE, Int.reduceEq, Int.reduceToNat, fA, q1]
    refine hR _ (fin_of1 [] ?_)
    rw [← h5]
    simp (maxSteps := 2000000) only [enA, ↓enP, Nat.reduceAdd, Nat.reduceMul, Nat.reduceSub, Nat.reduceLT, Nat.reduceLeDiff, Nat.reduceEqDiff, Nat.reduceBEq, ↓reduceIte, reduceCtorEq, fA]

/-- A book with the count of an entry changed. -/
def setC (b : List En) (i : Nat) (c : Int) : List En := b.set i { nth b i with c := c }
theorem setC_len (b : List En) (i : Nat) (c : Int) : (setC b i c).length = b.length := List.length_set

theorem leastB_spec {g : FuncId} {p : Int → Bool} (h : Hs) (b : List En) (i : Nat) (most c0 : Int) (hm : 0 ≤ most ∧ most ≤ 1000000) (hg : ∀ n c : Int, 0 ≤ n → n ≤ most → SpecG Try.prog g [.v (.int .i64 n), .ptr 0 0, .ptr 1 0] [.box 74 [.v (.int .i64 h.sc), .sl 2 (h.tk.map spR), .sl 1 (h.lo.map iR), .ob 2 b.length], .box 3 [.v (.int .i64 i)], .row 60 4 ((setC b i c).map enR) false] (.v (.bool (p n))) [.box 74 [.v (.int .i64 h.sc), .sl 2 (h.tk.map spR), .sl 1 (h.lo.map iR), .ob 2 b.length], .box 3 [.v (.int .i64 i)], .row 60 4 ((setC b i n).map enR) false]) : SpecG Try.prog 44 [.v (.int .i64 most), .fn g [.ptr 0 0, .ptr 1 0]] [.box 74 [.v (.int .i64 h.sc), .sl 2 (h.tk.map spR), .sl 1 (h.lo.map iR), .ob 2 b.length], .box 3 [.v (.int .i64 i)], .row 60 4 ((setC b i c0).map enR) false] (.v (.int .i64 (leastP p most c0).1)) [.box 74 [.v (.int .i64 h.sc), .sl 2 (h.tk.map spR), .sl 1 (h.lo.map iR), .ob 2 b.length], .box 3 [.v (.int .i64 i)], .row 60 4 ((setC b i (leastP p most c0).2).map enR) false] := by
  have w0 : IntKind.i64.wrap (most + 1) = most + 1 := wrap_id (by omega) (by omega)
  refine spec_go (N := 24) (rs := [.tmp 4]) (eq := eqs) rfl rfl fun_44 rfl (by kernel_rfl) (by kernel_rfl) (by simp) (by simp) (by simp) (by simp) fun R hR => ?_
  simp (maxSteps := 2000000) only [vcA, ↓vcP, ↓reduceIte, reduceCtorEq, Nat.reduceAdd, Nat.reduceMul, Nat.reduceSub, Nat.reduceLT, Nat.reduceLeDiff, Nat.reduceEqDiff, Nat.reduceBEq, Nat.reduceBNe, Nat.reduceGT, Nat.reduceDiv, Nat.reduceMod, Int.reduceAdd, Int.reduceSub, Int.reduceNeg, Int.reduceLT, Int.reduceLE, Int.reduceEq, Int.reduceToNat, fA, w0]
  refine goC_loop (α := {y : Int × Int × Int × Nat // 0 ≤ y.1 ∧ y.1 ≤ y.2.1 ∧ y.2.1 ≤ most + 1 ∧ (y.2.1 - y.1).toNat ≤ y.2.2.2 ∧ leastL p y.2.2.2 y.1 y.2.1 y.2.2.1 = leastP p most c0}) (fun x => ⟨[(1, .fn g [.ptr 0 0, .ptr 1 0]), (5, .v (.int .i64 x.1.1)), (6, .v (.int .i64 x.1.2.1))], [(0, .box 74 [.v (.int .i64 h.sc), .sl 2 (h.tk.map spR), .sl 1 (h.lo.map iR), .ob 2 b.length]), (1, .box 3 [.v (.int .i64 i)]), (2, .row 60 4 ((setC b i x.1.2.2.1).map enR) false)]⟩) (fun x => (x.1.2.1 - x.1.1).toNat) ⟨(0, most + 1, c0, (most + 1).toNat), by simp only; omega, by simp only; omega, by simp only; omega, by simp only; omega, rfl⟩ [] ?_ ?_
  · simp (maxSteps := 2000000) only [enA, ↓enP, Nat.reduceAdd, Nat.reduceMul, Nat.reduceSub, Nat.reduceLT, Nat.reduceLeDiff, Nat.reduceEqDiff, Nat.reduceBEq, ↓reduceIte, reduceCtorEq, fA]
  intro x B hB
  obtain ⟨⟨f, m, c, k⟩, h1, h2, h3, h4, h5⟩ := x
  simp only at h1 h2 h3 h4 h5
  by_cases c1 : f < m
  · have q1 : (f < m) = True := eq_true c1
    have e1 : IntKind.i64.wrap (f + m) = f + m := wrap_id (by omega) (by omega)
    have e2 : (f + m).tdiv 2 = (f + m) / 2 := quo_of (by omega)
    have e3 : IntKind.i64.wrap ((f + m) / 2) = (f + m) / 2 := wrap_id (by omega) (by omega)
    have e4 : IntKind.i64.wrap ((f + m) / 2 + 1) = (f + m) / 2 + 1 := wrap_id (by omega) (by omega)
    have hst := leastL_step (p := p) (c := c) c1 h4
    have hgm := hg ((f + m) / 2) c (by omega) (by omega)
    simp (maxSteps := 2000000) only [vcA, ↓vcP, ↓reduceIte, reduceCtorEq, Nat.reduceAdd, Nat.reduceMul, Nat.reduceSub, Nat.reduceLT, Nat.reduceLeDiff, Nat.reduceEqDiff, Nat.reduceBEq, Nat.reduceBNe, Nat.reduceGT, Nat.reduceDiv, Nat.reduceMod, Int.reduceAdd, Int.reduceSub, Int.reduceNeg, Int.reduceLT, Int.reduceLE, Int.reduceEq, Int.reduceToNat, fA, q1, e1, e2, e3]
    refine onF_call hgm [] [] [0, 1, 2] ?_ ?_
    · simp (maxSteps := 2000000) only [okA, ↓okP, Nat.reduceAdd, Nat.reduceMul, Nat.reduceSub, Nat.reduceLT, Nat.reduceLeDiff, Nat.reduceEqDiff, Nat.reduceBEq, ↓reduceIte, reduceCtorEq]
    cases hp : p ((f + m) / 2) with
    | true =>
      rw [hp, if_pos rfl, if_pos rfl] at hst
      simp (maxSteps := 2000000) only [vcA, ↓vcP, ↓reduceIte, reduceCtorEq, Nat.reduceAdd, Nat.reduceMul, Nat.reduceSub, Nat.reduceLT, Nat.reduceLeDiff, Nat.reduceEqDiff, Nat.reduceBEq, Nat.reduceBNe, Nat.reduceGT, Nat.reduceDiv, Nat.reduceMod, Int.reduceAdd, Int.reduceSub, Int.reduceNeg, Int.reduceLT, Int.reduceLE, Int.reduceEq, Int.reduceToNat, fA]
      refine hB _ ⟨(f, (f + m) / 2, (f + m) / 2, k - 1), by simp only; omega, by simp only; omega, by simp only; omega, by simp only; omega, by rw [← h5, hst]⟩ [] (by simp only; omega) rfl ?_
      simp (maxSteps := 2000000) only [enA, ↓enP, Nat.reduceAdd, Nat.reduceMul, Nat.reduceSub, Nat.reduceLT, Nat.reduceLeDiff, Nat.reduceEqDiff, Nat.reduceBEq, ↓reduceIte, reduceCtorEq, fA]
    | false =>
      rw [hp] at hst
      simp only [Bool.false_eq_true, if_false] at hst
      simp (maxSteps := 2000000) only [vcA, ↓vcP, ↓reduceIte, reduceCtorEq, Nat.reduceAdd, Nat.reduceMul, Nat.reduceSub, Nat.reduceLT, Nat.reduceLeDiff, Nat.reduceEqDiff, Nat.reduceBEq, Nat.reduceBNe, Nat.reduceGT, Nat.reduceDiv, Nat.reduceMod, Int.reduceAdd, Int.reduceSub, Int.reduceNeg, Int.reduceLT, Int.reduceLE, Int.reduceEq, Int.reduceToNat, fA, e4]
      refine hB _ ⟨((f + m) / 2 + 1, m, (f + m) / 2, k - 1), by simp only; omega, by simp only; omega, by simp only; omega, by simp only; omega, by rw [← h5, hst]⟩ [] (by simp only; omega) rfl ?_
      simp (maxSteps := 2000000) only [enA, ↓enP, Nat.reduceAdd, Nat.reduceMul, Nat.reduceSub, Nat.reduceLT, Nat.reduceLeDiff, Nat.reduceEqDiff, Nat.reduceBEq, ↓reduceIte, reduceCtorEq, fA]
  · have q1 : (f < m) = False := eq_false c1
    rw [leastL_end c1] at h5
    simp (maxSteps := 2000000) only [vcA, ↓vcP, ↓reduceIte, reduceCtorEq, Nat.reduceAdd, Nat.reduceMul, Nat.reduceSub, Nat.reduceLT, Nat.reduceLeDiff, Nat.reduceEqDiff, Nat.reduceBEq, Nat.reduceBNe, Nat.reduceGT, Nat.reduceDiv, Nat.reduceMod, Int.reduceAdd, Int.reduceSub, Int.reduceNeg, Int.reduceLT, Int.reduceLE, Int.reduceEq, Int.reduceToNat, fA, q1]
    refine hR _ (fin_of1 [] ?_)
    rw [← h5]
    simp (maxSteps := 2000000) only [enA, ↓enP, Nat.reduceAdd, Nat.reduceMul, Nat.reduceSub, Nat.reduceLT, Nat.reduceLeDiff, Nat.reduceEqDiff, Nat.reduceBEq, ↓reduceIte, reduceCtorEq, fA]

theorem leastN_spec {g : FuncId} {p : Int → Bool} (h : Hs) (b : List En) (i : Nat) (most c0 : Int) (hm : 0 ≤ most ∧ most ≤ 1000000) (hg : ∀ n c : Int, 0 ≤ n → n ≤ most → SpecG Try.prog g [.v (.int .i64 n), .ptr 0 0] [.box 77 [.fn 56 [.ptr 1 0, .ptr 2 0]], .box 74 [.v (.int .i64 h.sc), .sl 2 (h.tk.map spR), .sl 1 (h.lo.map iR), .ob 3 b.length], .box 3 [.v (.int .i64 i)], .row 60 4 ((setC b i c).map enR) false] (.v (.bool (p n))) [.box 77 [.fn 56 [.ptr 1 0, .ptr 2 0]], .box 74 [.v (.int .i64 h.sc), .sl 2 (h.tk.map spR), .sl 1 (h.lo.map iR), .ob 3 b.length], .box 3 [.v (.int .i64 i)], .row 60 4 ((setC b i n).map enR) false]) : SpecG Try.prog 44 [.v (.int .i64 most), .fn g [.ptr 0 0]] [.box 77 [.fn 56 [.ptr 1 0, .ptr 2 0]], .box 74 [.v (.int .i64 h.sc), .sl 2 (h.tk.map spR), .sl 1 (h.lo.map iR), .ob 3 b.length], .box 3 [.v (.int .i64 i)], .row 60 4 ((setC b i c0).map enR) false] (.v (.int .i64 (leastP p most c0).1)) [.box 77 [.fn 56 [.ptr 1 0, .ptr 2 0]], .box 74 [.v (.int .i64 h.sc), .sl 2 (h.tk.map spR), .sl 1 (h.lo.map iR), .ob 3 b.length], .box 3 [.v (.int .i64 i)], .row 60 4 ((setC b i (leastP p most c0).2).map enR) false] := by
  have w0 : IntKind.i64.wrap (most + 1) = most + 1 := wrap_id (by omega) (by omega)
  refine spec_go (N := 24) (rs := [.tmp 4]) (eq := eqs) rfl rfl fun_44 rfl (by kernel_rfl) (by kernel_rfl) (by simp) (by simp) (by simp) (by simp) fun R hR => ?_
  simp (maxSteps := 2000000) only [vcA, ↓vcP, ↓reduceIte, reduceCtorEq, Nat.reduceAdd, Nat.reduceMul, Nat.reduceSub, Nat.reduceLT, Nat.reduceLeDiff, Nat.reduceEqDiff, Nat.reduceBEq, Nat.reduceBNe, Nat.reduceGT, Nat.reduceDiv, Nat.reduceMod, Int.reduceAdd, Int.reduceSub, Int.reduceNeg, Int.reduceLT, Int.reduceLE, Int.reduceEq, Int.reduceToNat, fA, w0]
  refine goC_loop (α := {y : Int × Int × Int × Nat // 0 ≤ y.1 ∧ y.1 ≤ y.2.1 ∧ y.2.1 ≤ most + 1 ∧ (y.2.1 - y.1).toNat ≤ y.2.2.2 ∧ leastL p y.2.2.2 y.1 y.2.1 y.2.2.1 = leastP p most c0}) (fun x => ⟨[(1, .fn g [.ptr 0 0]), (5, .v (.int .i64 x.1.1)), (6, .v (.int .i64 x.1.2.1))], [(0, .box 77 [.fn 56 [.ptr 1 0, .ptr 2 0]]), (1, .box 74 [.v (.int .i64 h.sc), .sl 2 (h.tk.map spR), .sl 1 (h.lo.map iR), .ob 3 b.length]), (2, .box 3 [.v (.int .i64 i)]), (3, .row 60 4 ((setC b i x.1.2.2.1).map enR) false)]⟩) (fun x => (x.1.2.1 - x.1.1).toNat) ⟨(0, most + 1, c0, (most + 1).toNat), by simp only; omega, by simp only; omega, by simp only; omega, by simp only; omega, rfl⟩ [] ?_ ?_
  · simp (maxSteps := 2000000) only [enA, ↓enP, Nat.reduceAdd, Nat.reduceMul, Nat.reduceSub, Nat.reduceLT, Nat.reduceLeDiff, Nat.reduceEqDiff, Nat.reduceBEq, ↓reduceIte, reduceCtorEq, fA]
  intro x B hB
  obtain ⟨⟨f, m, c, k⟩, h1, h2, h3, h4, h5⟩ := x
  simp only at h1 h2 h3 h4 h5
  by_cases c1 : f < m
  · have q1 : (f < m) = True := eq_true c1
    have e1 : IntKind.i64.wrap (f + m) = f + m := wrap_id (by omega) (by omega)
    have e2 : (f + m).tdiv 2 = (f + m) / 2 := quo_of (by omega)
    have e3 : IntKind.i64.wrap ((f + m) / 2) = (f + m) / 2 := wrap_id (by omega) (by omega)
    have e4 : IntKind.i64.wrap ((f + m) / 2 + 1) = (f + m) / 2 + 1 := wrap_id (by omega) (by omega)
    have hst := leastL_step (p := p) (c := c) c1 h4
    have hgm := hg ((f + m) / 2) c (by omega) (by omega)
    simp (maxSteps := 2000000) only [vcA, ↓vcP, ↓reduceIte, reduceCtorEq, Nat.reduceAdd, Nat.reduceMul, Nat.reduceSub, Nat.reduceLT, Nat.reduceLeDiff, Nat.reduceEqDiff, Nat.reduceBEq, Nat.reduceBNe, Nat.reduceGT, Nat.reduceDiv, Nat.reduceMod, Int.reduceAdd, Int.reduceSub, Int.reduceNeg, Int.reduceLT, Int.reduceLE, Int.reduceEq, Int.reduceToNat, fA, q1, e1, e2, e3]
    refine onF_call hgm [] [] [0, 1, 2, 3] ?_ ?_
    · simp (maxSteps := 2000000) only [okA, ↓okP, Nat.reduceAdd, Nat.reduceMul, Nat.reduceSub, Nat.reduceLT, Nat.reduceLeDiff, Nat.reduceEqDiff, Nat.reduceBEq, ↓reduceIte, reduceCtorEq]
    cases hp : p ((f + m) / 2) with
    | true =>
      rw [hp, if_pos rfl, if_pos rfl] at hst
      simp (maxSteps := 2000000) only [vcA, ↓vcP, ↓reduceIte, reduceCtorEq, Nat.reduceAdd, Nat.reduceMul, Nat.reduceSub, Nat.reduceLT, Nat.reduceLeDiff, Nat.reduceEqDiff, Nat.reduceBEq, Nat.reduceBNe, Nat.reduceGT, Nat.reduceDiv, Nat.reduceMod, Int.reduceAdd, Int.reduceSub, Int.reduceNeg, Int.reduceLT, Int.reduceLE, Int.reduceEq, Int.reduceToNat, fA]
      refine hB _ ⟨(f, (f + m) / 2, (f + m) / 2, k - 1), by simp only; omega, by simp only; omega, by simp only; omega, by simp only; omega, by rw [← h5, hst]⟩ [] (by simp only; omega) rfl ?_
      simp (maxSteps := 2000000) only [enA, ↓enP, Nat.reduceAdd, Nat.reduceMul, Nat.reduceSub, Nat.reduceLT, Nat.reduceLeDiff, Nat.reduceEqDiff, Nat.reduceBEq, ↓reduceIte, reduceCtorEq, fA]
    | false =>
      rw [hp] at hst
      simp only [Bool.false_eq_true, if_false] at hst
      simp (maxSteps := 2000000) only [vcA, ↓vcP, ↓reduceIte, reduceCtorEq, Nat.reduceAdd, Nat.reduceMul, Nat.reduceSub, Nat.reduceLT, Nat.reduceLeDiff, Nat.reduceEqDiff, Nat.reduceBEq, Nat.reduceBNe, Nat.reduceGT, Nat.reduceDiv, Nat.reduceMod, Int.reduceAdd, Int.reduceSub, Int.reduceNeg, Int.reduceLT, Int.reduceLE, Int.reduceEq, Int.reduceToNat, fA, e4]
      refine hB _ ⟨((f + m) / 2 + 1, m, (f + m) / 2, k - 1), by simp only; omega, by simp only; omega, by simp only; omega, by simp only; omega, by rw [← h5, hst]⟩ [] (by simp only; omega) rfl ?_
      simp (maxSteps := 2000000) only [enA, ↓enP, Nat.reduceAdd, Nat.reduceMul, Nat.reduceSub, Nat.reduceLT, Nat.reduceLeDiff, Nat.reduceEqDiff, Nat.reduceBEq, ↓reduceIte, reduceCtorEq, fA]
  · have q1 : (f < m) = False := eq_false c1
    rw [leastL_end c1] at h5
    simp (maxSteps := 2000000) only [vcA, ↓vcP, ↓reduceIte, reduceCtorEq, Nat.reduceAdd, Nat.reduceMul, Nat.reduceSub, Nat.reduceLT, Nat.reduceLeDiff, Nat.reduceEqDiff, Nat.reduceBEq, Nat.reduceBNe, Nat.reduceGT, Nat.reduceDiv, Nat.reduceMod, Int.reduceAdd, Int.reduceSub, Int.reduceNeg, Int.reduceLT, Int.reduceLE, Int.reduceEq, Int.reduceToNat, fA, q1]
    refine hR _ (fin_of1 [] ?_)
    rw [← h5]
    simp (maxSteps := 2000000) only [enA, ↓enP, Nat.reduceAdd, Nat.reduceMul, Nat.reduceSub, Nat.reduceLT, Nat.reduceLeDiff, Nat.reduceEqDiff, Nat.reduceBEq, ↓reduceIte, reduceCtorEq, fA]

end Go.Proofs.Ytninkfpeeemcoaa.Ab.T07
namespace Go.Proofs.Ytninkfpeeemcoaa.Ab.T07
open Go Go.RowKit
set_option linter.unusedVariables false
set_option linter.unusedSimpArgs false
set_option maxRecDepth 100000
def giveP (h : Hs) (i : Nat) (need n : Int) : Bool := decide (n - n * nth h.lo i / 1000 ≥ need)
theorem give1_spec (h : Hs) (i : Nat) (need n : Int) (hh : OkH h) (hi : i < h.tk.length) (hn : 0 ≤ n ∧ n ≤ 100000) : SpecG Try.prog 45 [.v (.int .i64 n), .ptr 0 0, .ptr 1 0, .ptr 2 0] [.box 30 [.v (.int .i64 h.sc), .sl 2 (h.tk.map spR), .sl 1 (h.lo.map iR)], .box 3 [.v (.int .i64 i)], .box 3 [.v (.int .i64 need)]] (.v (.bool (giveP h i need n))) [.box 30 [.v (.int .i64 h.sc), .sl 2 (h.tk.map spR), .sl 1 (h.lo.map iR)], .box 3 [.v (.int .i64 i)], .box 3 [.v (.int .i64 need)]] := by
  have hlo := hh.lo
  have q1 : (i < h.lo.length) = True := eq_true (by omega)
  have hl := hh.los _ (nth_mem (l := h.lo) (i := i) (by omega))
  have m := mul_bd (a := n) (b := nth h.lo i) (M := 100000) (N := 1000) hn.1 hn.2 hl.1 hl.2
  have e1 : IntKind.i64.wrap (n * nth h.lo i) = n * nth h.lo i := wrap_id (by omega) (by omega)
  have e2 : (n * nth h.lo i).tdiv 1000 = n * nth h.lo i / 1000 := quo_of m.1
  have e3 : IntKind.i64.wrap (n * nth h.lo i / 1000) = n * nth h.lo i / 1000 := wrap_id (by omega) (by omega)
  have e4 : IntKind.i64.wrap (n - n * nth h.lo i / 1000) = n - n * nth h.lo i / 1000 := wrap_id (by omega) (by omega)
  refine spec_go (N := 18) (rs := [.tmp 5]) (eq := eqs) rfl rfl fun_45 rfl (by kernel_rfl) (by kernel_rfl) (by simp) (by simp) (by simp) (by simp) fun R hR => ?_
  simp (maxSteps := 2000000) only [vcA, ↓vcP, ↓reduceIte, reduceCtorEq, Nat.reduceAdd, Nat.reduceMul, Nat.reduceSub, Nat.reduceLT, Nat.reduceLeDiff, Nat.reduceEqDiff, Nat.reduceBEq, Nat.reduceBNe, Nat.reduceGT, Nat.reduceDiv, Nat.reduceMod, Int.reduceAdd, Int.reduceSub, Int.reduceNeg, Int.reduceLT, Int.reduceLE, Int.reduceEq, Int.reduceToNat, fA, q1, e1, e2, e3, e4, iR]
  repeat (first | refine ⟨by kernel_rfl, ?_⟩ | refine ⟨⟨by kernel_rfl, by kernel_rfl⟩, ?_⟩ | refine ⟨⟨by kernel_rfl, by kernel_rfl, by kernel_rfl⟩, ?_⟩ | refine ⟨⟨by kernel_rfl, by kernel_rfl, by kernel_rfl, by kernel_rfl⟩, ?_⟩ | refine ⟨⟨by kernel_rfl, by kernel_rfl, by kernel_rfl, by kernel_rfl, by kernel_rfl⟩, ?_⟩ | refine ⟨⟨by kernel_rfl, by kernel_rfl, by kernel_rfl, by kernel_rfl, by kernel_rfl, by kernel_rfl⟩, ?_⟩ | refine ⟨⟨by kernel_rfl, by kernel_rfl, by kernel_rfl, by kernel_rfl, by kernel_rfl, by kernel_rfl, by kernel_rfl⟩, ?_⟩ | refine ⟨⟨by kernel_rfl, by kernel_rfl, by kernel_rfl, by kernel_rfl, by kernel_rfl, by kernel_rfl, by kernel_rfl, by kernel_rfl⟩, ?_⟩ | refine ⟨⟨by kernel_rfl, by kernel_rfl, by kernel_rfl, by kernel_rfl, by kernel_rfl, by kernel_rfl, by kernel_rfl, by kernel_rfl, by kernel_rfl⟩, ?_⟩ | refine ⟨⟨by kernel_rfl, by kernel_rfl, by kernel_rfl, by kernel_rfl, by kernel_rfl, by kernel_rfl, by kernel_rfl, by kernel_rfl, by kernel_rfl, by kernel_rfl⟩, ?_⟩ | refine ⟨⟨by kernel_rfl, by kernel_rfl, by kernel_rfl, by kernel_rfl, by kernel_rfl, by kernel_rfl, by kernel_rfl, by kernel_rfl, by kernel_rfl, by kernel_rfl, by kernel_rfl⟩, ?_⟩ | refine ⟨⟨by kernel_rfl, by kernel_rfl, by kernel_rfl, by kernel_rfl, by kernel_rfl, by kernel_rfl, by kernel_rfl, by kernel_rfl, by kernel_rfl, by kernel_rfl, by kernel_rfl, by kernel_rfl⟩, ?_⟩ | refine ⟨⟨by kernel_rfl, by kernel_rfl, by kernel_rfl, by kernel_rfl, by kernel_rfl, by kernel_rfl, by kernel_rfl, by kernel_rfl, by kernel_rfl, by kernel_rfl, by kernel_rfl, by kernel_rfl, by kernel_rfl⟩, ?_⟩)
  refine hR _ (fin_of1 [] ?_)
  simp (maxSteps := 2000000) only [enA, ↓enP, Nat.reduceAdd, Nat.reduceMul, Nat.reduceSub, Nat.reduceLT, Nat.reduceLeDiff, Nat.reduceEqDiff, Nat.reduceBEq, ↓reduceIte, reduceCtorEq, fA]
  try rfl
def giveI (h : Hs) (fans : Int) (i : Nat) : Int := if fans * (nth h.tk i).2 = 0 then 0 else (leastP (giveP h i (fans * (nth h.tk i).2)) 100000 0).1 + h.sc
theorem leastL_bd (p : Int → Bool) : ∀ (k : Nat) (f m c : Int), f ≤ m → f ≤ (leastL p k f m c).1 ∧ (leastL p k f m c).1 ≤ m
  | 0, f, m, c, h => ⟨Int.le_refl _, h⟩
  | k + 1, f, m, c, h => by
    rw [leastL]
    split
    · rename_i h1
      split
      · have := leastL_bd p k f ((f + m) / 2) ((f + m) / 2) (by omega)
        omega
      · have := leastL_bd p k ((f + m) / 2 + 1) m ((f + m) / 2) (by omega)
        omega
    · exact ⟨Int.le_refl _, h⟩
theorem leastP_bd (p : Int → Bool) {most : Int} (c : Int) (h : 0 ≤ most) : 0 ≤ (leastP p most c).1 ∧ (leastP p most c).1 ≤ most + 1 := leastL_bd p _ 0 (most + 1) c (by omega)
def giveL (h : Hs) (fans : Int) (n : Nat) : List Int := (List.range n).map (giveI h fans)
theorem giveL_len (h : Hs) (fans : Int) (n : Nat) : (giveL h fans n).length = n := by simp [giveL]
theorem giveL_succ (h : Hs) (fans : Int) (n : Nat) : giveL h fans (n + 1) = giveL h fans n ++ [giveI h fans n] := by unfold giveL; rw [List.range_succ, List.map_append]; rfl
def giveBad (h : Hs) (fans : Int) : Bool := (List.range h.tk.length).any fun i => decide (giveI h fans i > 100000)
def giveErr (h : Hs) (fans : Int) : Int := if checkErr h [] ≠ 0 then checkErr h [] else if betw 0 500 [fans] then (if giveBad h fans then 7 else 0) else 6
def giveR (h : Hs) (fans : Int) : List Int := if giveErr h fans = 0 then giveL h fans h.tk.length else []
set_option maxHeartbeats 4000000 in
theorem giveO_spec (h : Hs) (fans : Int) (h1 : h.tk.length < 1000000) (h2 : h.lo.length < 1000000) : SpecF Try.prog 19 [.agg [.v (.int .i64 h.sc), .sl 2 (h.tk.map spR), .sl 1 (h.lo.map iR)], .v (.int .i64 fans)] (.tup [.ob 0 (giveR h fans).length, .v (.int .i64 (giveErr h fans))]) [.row 3 1 ((giveR h fans).map iR) false] := by
  refine spec_go (N := 51) (rs := [.tmp 4, .tmp 5]) (eq := eqs) rfl rfl fun_19 rfl (by kernel_rfl) (by kernel_rfl) (by simp) (by simp) (by simp) (by simp) fun R hR => ?_
  simp (maxSteps := 2000000) only [vcA, ↓vcP, ↓reduceIte, reduceCtorEq, Nat.reduceAdd, Nat.reduceMul, Nat.reduceSub, Nat.reduceLT, Nat.reduceLeDiff, Nat.reduceEqDiff, Nat.reduceBEq, Nat.reduceBNe, Nat.reduceGT, Nat.reduceDiv, Nat.reduceMod, Int.reduceAdd, Int.reduceSub, Int.reduceNeg, Int.reduceLT, Int.reduceLE, Int.reduceEq, Int.reduceToNat, fA]
  refine onF_data (check_spec h [] h1 h2 (by simp)) ?_ ?_
  · simp (maxSteps := 2000000) only [okA, ↓okP, Nat.reduceAdd, Nat.reduceMul, Nat.reduceSub, Nat.reduceLT, Nat.reduceLeDiff, Nat.reduceEqDiff, Nat.reduceBEq, ↓reduceIte, reduceCtorEq]
  by_cases hc : checkErr h [] ≠ 0
  · have bn : (checkErr h [] != 0) = true := by simpa using hc
    have e : giveErr h fans = checkErr h [] := by unfold giveErr; rw [if_pos hc]
    have e2 : giveR h fans = [] := by unfold giveR; rw [e, if_neg hc]
    simp (maxSteps := 2000000) only [vcA, ↓vcP, ↓reduceIte, reduceCtorEq, Nat.reduceAdd, Nat.reduceMul, Nat.reduceSub, Nat.reduceLT, Nat.reduceLeDiff, Nat.reduceEqDiff, Nat.reduceBEq, Nat.reduceBNe, Nat.reduceGT, Nat.reduceDiv, Nat.reduceMod, Int.reduceAdd, Int.reduceSub, Int.reduceNeg, Int.reduceLT, Int.reduceLE, Int.reduceEq, Int.reduceToNat, fA, bn]
    refine hR _ (fin_of1 [none] ?_)
    rw [e, e2]
    simp (maxSteps := 2000000) only [enA, ↓enP, Nat.reduceAdd, Nat.reduceMul, Nat.reduceSub, Nat.reduceLT, Nat.reduceLeDiff, Nat.reduceEqDiff, Nat.reduceBEq, ↓reduceIte, reduceCtorEq, fA]
  have hc : checkErr h [] = 0 := by simpa using hc
  have hh := (check_ok hc).hs
  have hlen := hh.tk
  have bn : ((0 : Int) != 0) = false := rfl
  rw [hc]
  simp (maxSteps := 2000000) only [vcA, ↓vcP, ↓reduceIte, reduceCtorEq, Nat.reduceAdd, Nat.reduceMul, Nat.reduceSub, Nat.reduceLT, Nat.reduceLeDiff, Nat.reduceEqDiff, Nat.reduceBEq, Nat.reduceBNe, Nat.reduceGT, Nat.reduceDiv, Nat.reduceMod, Int.reduceAdd, Int.reduceSub, Int.reduceNeg, Int.reduceLT, Int.reduceLE, Int.reduceEq, Int.reduceToNat, fA, bn]
  refine onF_call3 (outwork_within 0 500 [fans] (by simp)) ?_ ?_
  · simp (maxSteps := 2000000) only [okA, ↓okP, Nat.reduceAdd, Nat.reduceMul, Nat.reduceSub, Nat.reduceLT, Nat.reduceLeDiff, Nat.reduceEqDiff, Nat.reduceBEq, ↓reduceIte, reduceCtorEq]
    rfl
  cases hw : betw 0 500 [fans] with
  | false =>
    have e : giveErr h fans = 6 := by unfold giveErr; rw [if_neg (by rw [hc]; simp), hw]; rfl
    have e2 : giveR h fans = [] := by unfold giveR; rw [e, if_neg (by decide)]
    simp (maxSteps := 2000000) only [vcA, ↓vcP, ↓reduceIte, reduceCtorEq, Nat.reduceAdd, Nat.reduceMul, Nat.reduceSub, Nat.reduceLT, Nat.reduceLeDiff, Nat.reduceEqDiff, Nat.reduceBEq, Nat.reduceBNe, Nat.reduceGT, Nat.reduceDiv, Nat.reduceMod, Int.reduceAdd, Int.reduceSub, Int.reduceNeg, Int.reduceLT, Int.reduceLE, Int.reduceEq, Int.reduceToNat, fA]
    refine hR _ (fin_of1 [none] ?_)
    rw [e, e2]
    simp (maxSteps := 2000000) only [enA, ↓enP, Nat.reduceAdd, Nat.reduceMul, Nat.reduceSub, Nat.reduceLT, Nat.reduceLeDiff, Nat.reduceEqDiff, Nat.reduceBEq, ↓reduceIte, reduceCtorEq, fA]
  | true =>
  have hfa := betw1 hw
  have e : giveErr h fans = if giveBad h fans then 7 else 0 := by unfold giveErr; rw [if_neg (by rw [hc]; simp), hw, if_pos rfl]
  simp (maxSteps := 2000000) only [vcA, ↓vcP, ↓reduceIte, reduceCtorEq, Nat.reduceAdd, Nat.reduceMul, Nat.reduceSub, Nat.reduceLT, Nat.reduceLeDiff, Nat.reduceEqDiff, Nat.reduceBEq, Nat.reduceBNe, Nat.reduceGT, Nat.reduceDiv, Nat.reduceMod, Int.reduceAdd, Int.reduceSub, Int.reduceNeg, Int.reduceLT, Int.reduceLE, Int.reduceEq, Int.reduceToNat, fA]
  refine goC_loop (α := {i : Nat // i ≤ h.tk.length ∧ ∀ j : Nat, j < i → giveI h fans j ≤ 100000}) (fun x => ⟨[(1, .v (.int .i64 fans)), (2, .ptr 8 0), (4, .ob 152 x.1), (22, .sl 2 (h.tk.map spR)), (23, .v (.int .i64 h.tk.length)), (24, .v (.int .i64 x.1))], [(8, .box 30 [.v (.int .i64 h.sc), .sl 2 (h.tk.map spR), .sl 1 (h.lo.map iR)]), (152, .row 3 1 ((giveL h fans x.1).map iR) false)]⟩) (fun x => h.tk.length - x.1) ⟨0, by omega, by omega⟩ [none] ?_ ?_
  · simp (maxSteps := 2000000) only [enA, ↓enP, Nat.reduceAdd, Nat.reduceMul, Nat.reduceSub, Nat.reduceLT, Nat.reduceLeDiff, Nat.reduceEqDiff, Nat.reduceBEq, ↓reduceIte, reduceCtorEq, fA]
    exact ⟨rfl, rfl⟩
  intro x B hB
  obtain ⟨i, hi, hx⟩ := x
  have hl := giveL_len h fans i
  have hm : (giveL h fans i).length + 1 ≤ maxLen := by rw [hl]; simp only [maxLen]; omega
  by_cases c1 : i < h.tk.length
  · have q1 : (i < h.tk.length) = True := eq_true c1
    have e0 : IntKind.i64.wrap ((i : Int) + 1) = ((i + 1 : Nat) : Int) := wrap_id (by omega) (by omega)
    have ht := hh.tks _ (nth_mem (l := h.tk) (i := i) c1)
    have m := mul_bd (a := fans) (b := (nth h.tk i).2) (M := 500) (N := 1000) hfa.1 hfa.2 (by omega) ht.2.2
    have e1 : IntKind.i64.wrap (fans * (nth h.tk i).2) = fans * (nth h.tk i).2 := wrap_id (by omega) (by omega)
    have gi : giveI h fans i = if fans * (nth h.tk i).2 = 0 then 0 else (leastP (giveP h i (fans * (nth h.tk i).2)) 100000 0).1 + h.sc := rfl
    obtain ⟨need, hN⟩ : ∃ x, x = fans * (nth h.tk i).2 := ⟨_, rfl⟩
    rw [← hN] at m gi
    have e1 : IntKind.i64.wrap (fans * (nth h.tk i).2) = need := by rw [e1, hN]
    by_cases c2 : need = 0
    · have q2 : (need == 0) = true := by simpa using c2
      rw [if_pos c2] at gi
      simp (maxSteps := 2000000) only [vcA, ↓vcP, ↓reduceIte, reduceCtorEq, Nat.reduceAdd, Nat.reduceMul, Nat.reduceSub, Nat.reduceLT, Nat.reduceLeDiff, Nat.reduceEqDiff, Nat.reduceBEq, Nat.reduceBNe, Nat.reduceGT, Nat.reduceDiv, Nat.reduceMod, Int.reduceAdd, Int.reduceSub, Int.reduceNeg, Int.reduceLT, Int.reduceLE, Int.reduceEq, Int.reduceToNat, fA, q1, spR, e1, q2]
      refine ⟨⟨by omega, by simp only [maxLen]; omega⟩, fun _ => ?_⟩
      refine hB _ ⟨i + 1, by omega, fun j hj => ?_⟩ [some 328] (by simp only; omega) rfl ?_
      · by_cases e : j = i
        · rw [e, gi]; omega
        · exact hx j (by omega)
      · rw [giveL_succ]
        simp (maxSteps := 2000000) only [enA, ↓enP, Nat.reduceAdd, Nat.reduceMul, Nat.reduceSub, Nat.reduceLT, Nat.reduceLeDiff, Nat.reduceEqDiff, Nat.reduceBEq, ↓reduceIte, reduceCtorEq, fA, e0, hl]
        try simp [iR, gi]
    · have q2 : (need == 0) = false := by simpa using c2
      rw [if_neg c2] at gi
      have hlb := leastP_bd (giveP h i need) (most := 100000) 0 (by omega)
      have hsc := hh.sc
      have hle := leastG_spec (p := giveP h i need) h i need 100000 0 (by omega) fun n c h3 h4 => give1_spec h i need n hh c1 ⟨h3, h4⟩
      generalize (leastP (giveP h i need) 100000 0).1 = L at gi hlb hle
      have e5 : IntKind.i64.wrap (L + h.sc) = L + h.sc := wrap_id (by omega) (by omega)
      simp (maxSteps := 2000000) only [vcA, ↓vcP, ↓reduceIte, reduceCtorEq, Nat.reduceAdd, Nat.reduceMul, Nat.reduceSub, Nat.reduceLT, Nat.reduceLeDiff, Nat.reduceEqDiff, Nat.reduceBEq, Nat.reduceBNe, Nat.reduceGT, Nat.reduceDiv, Nat.reduceMod, Int.reduceAdd, Int.reduceSub, Int.reduceNeg, Int.reduceLT, Int.reduceLE, Int.reduceEq, Int.reduceToNat, fA, q1, spR, e1, q2]
      refine onF_same hle [] [] [8, 216, 280] ?_ ?_
      · simp (maxSteps := 2000000) only [okA, ↓okP, Nat.reduceAdd, Nat.reduceMul, Nat.reduceSub, Nat.reduceLT, Nat.reduceLeDiff, Nat.reduceEqDiff, Nat.reduceBEq, ↓reduceIte, reduceCtorEq, sameL, List.drop_nil, List.drop_succ_cons, List.drop_zero]
        exact ⟨rfl, rfl, rfl⟩
      by_cases c3 : L + h.sc > 100000
      · have q3 : (L + h.sc > 100000) = True := eq_true c3
        have e6 : giveErr h fans = 7 := by
          rw [e, if_pos]
          exact List.any_eq_true.2 ⟨i, List.mem_range.2 c1, decide_eq_true (by rw [gi]; exact c3)⟩
        have e7 : giveR h fans = [] := by unfold giveR; rw [e6, if_neg (by decide)]
        simp (maxSteps := 2000000) only [vcA, ↓vcP, ↓reduceIte, reduceCtorEq, Nat.reduceAdd, Nat.reduceMul, Nat.reduceSub, Nat.reduceLT, Nat.reduceLeDiff, Nat.reduceEqDiff, Nat.reduceBEq, Nat.reduceBNe, Nat.reduceGT, Nat.reduceDiv, Nat.reduceMod, Int.reduceAdd, Int.reduceSub, Int.reduceNeg, Int.reduceLT, Int.reduceLE, Int.reduceEq, Int.reduceToNat, fA, sameL, List.drop_nil, List.drop_succ_cons, List.drop_zero, e5, q3]
        repeat (first | refine ⟨by kernel_rfl, ?_⟩ | refine ⟨⟨by kernel_rfl, by kernel_rfl⟩, ?_⟩ | refine ⟨⟨by kernel_rfl, by kernel_rfl, by kernel_rfl⟩, ?_⟩ | refine ⟨⟨by kernel_rfl, by kernel_rfl, by kernel_rfl, by kernel_rfl⟩, ?_⟩ | refine ⟨⟨by kernel_rfl, by kernel_rfl, by kernel_rfl, by kernel_rfl, by kernel_rfl⟩, ?_⟩ | refine ⟨⟨by kernel_rfl, by kernel_rfl, by kernel_rfl, by kernel_rfl, by kernel_rfl, by kernel_rfl⟩, ?_⟩ | refine ⟨⟨by kernel_rfl, by kernel_rfl, by kernel_rfl, by kernel_rfl, by kernel_rfl, by kernel_rfl, by kernel_rfl⟩, ?_⟩ | refine ⟨⟨by kernel_rfl, by kernel_rfl, by kernel_rfl, by kernel_rfl, by kernel_rfl, by kernel_rfl, by kernel_rfl, by kernel_rfl⟩, ?_⟩ | refine ⟨⟨by kernel_rfl, by kernel_rfl, by kernel_rfl, by kernel_rfl, by kernel_rfl, by kernel_rfl, by kernel_rfl, by kernel_rfl, by kernel_rfl⟩, ?_⟩ | refine ⟨⟨by kernel_rfl, by kernel_rfl, by kernel_rfl, by kernel_rfl, by kernel_rfl, by kernel_rfl, by kernel_rfl, by kernel_rfl, by kernel_rfl, by kernel_rfl⟩, ?_⟩ | refine ⟨⟨by kernel_rfl, by kernel_rfl, by kernel_rfl, by kernel_rfl, by kernel_rfl, by kernel_rfl, by kernel_rfl, by kernel_rfl, by kernel_rfl, by kernel_rfl, by kernel_rfl⟩, ?_⟩ | refine ⟨⟨by kernel_rfl, by kernel_rfl, by kernel_rfl, by kernel_rfl, by kernel_rfl, by kernel_rfl, by kernel_rfl, by kernel_rfl, by kernel_rfl, by kernel_rfl, by kernel_rfl, by kernel_rfl⟩, ?_⟩ | refine ⟨⟨by kernel_rfl, by kernel_rfl, by kernel_rfl, by kernel_rfl, by kernel_rfl, by kernel_rfl, by kernel_rfl, by kernel_rfl, by kernel_rfl, by kernel_rfl, by kernel_rfl, by kernel_rfl, by kernel_rfl⟩, ?_⟩)
        refine hR _ (fin_of1 [none] ?_)
        rw [e6, e7]
        simp (maxSteps := 2000000) only [enA, ↓enP, Nat.reduceAdd, Nat.reduceMul, Nat.reduceSub, Nat.reduceLT, Nat.reduceLeDiff, Nat.reduceEqDiff, Nat.reduceBEq, ↓reduceIte, reduceCtorEq, fA]
      · have q3 : (L + h.sc > 100000) = False := eq_false c3
        simp (maxSteps := 2000000) only [vcA, ↓vcP, ↓reduceIte, reduceCtorEq, Nat.reduceAdd, Nat.reduceMul, Nat.reduceSub, Nat.reduceLT, Nat.reduceLeDiff, Nat.reduceEqDiff, Nat.reduceBEq, Nat.reduceBNe, Nat.reduceGT, Nat.reduceDiv, Nat.reduceMod, Int.reduceAdd, Int.reduceSub, Int.reduceNeg, Int.reduceLT, Int.reduceLE, Int.reduceEq, Int.reduceToNat, fA, sameL, List.drop_nil, List.drop_succ_cons, List.drop_zero, e5, q3]
        repeat (first | refine ⟨by kernel_rfl, ?_⟩ | refine ⟨⟨by kernel_rfl, by kernel_rfl⟩, ?_⟩ | refine ⟨⟨by kernel_rfl, by kernel_rfl, by kernel_rfl⟩, ?_⟩ | refine ⟨⟨by kernel_rfl, by kernel_rfl, by kernel_rfl, by kernel_rfl⟩, ?_⟩ | refine ⟨⟨by kernel_rfl, by kernel_rfl, by kernel_rfl, by kernel_rfl, by kernel_rfl⟩, ?_⟩ | refine ⟨⟨by kernel_rfl, by kernel_rfl, by kernel_rfl, by kernel_rfl, by kernel_rfl, by kernel_rfl⟩, ?_⟩ | refine ⟨⟨by kernel_rfl, by kernel_rfl, by kernel_rfl, by kernel_rfl, by kernel_rfl, by kernel_rfl, by kernel_rfl⟩, ?_⟩ | refine ⟨⟨by kernel_rfl, by kernel_rfl, by kernel_rfl, by kernel_rfl, by kernel_rfl, by kernel_rfl, by kernel_rfl, by kernel_rfl⟩, ?_⟩ | refine ⟨⟨by kernel_rfl, by kernel_rfl, by kernel_rfl, by kernel_rfl, by kernel_rfl, by kernel_rfl, by kernel_rfl, by kernel_rfl, by kernel_rfl⟩, ?_⟩ | refine ⟨⟨by kernel_rfl, by kernel_rfl, by kernel_rfl, by kernel_rfl, by kernel_rfl, by kernel_rfl, by kernel_rfl, by kernel_rfl, by kernel_rfl, by kernel_rfl⟩, ?_⟩ | refine ⟨⟨by kernel_rfl, by kernel_rfl, by kernel_rfl, by kernel_rfl, by kernel_rfl, by kernel_rfl, by kernel_rfl, by kernel_rfl, by kernel_rfl, by kernel_rfl, by kernel_rfl⟩, ?_⟩ | refine ⟨⟨by kernel_rfl, by kernel_rfl, by kernel_rfl, by kernel_rfl, by kernel_rfl, by kernel_rfl, by kernel_rfl, by kernel_rfl, by kernel_rfl, by kernel_rfl, by kernel_rfl, by kernel_rfl⟩, ?_⟩ | refine ⟨⟨by kernel_rfl, by kernel_rfl, by kernel_rfl, by kernel_rfl, by kernel_rfl, by kernel_rfl, by kernel_rfl, by kernel_rfl, by kernel_rfl, by kernel_rfl, by kernel_rfl, by kernel_rfl, by kernel_rfl⟩, ?_⟩)
        refine ⟨⟨by omega, by simp only [maxLen]; omega⟩, fun _ => ?_⟩
        refine hB _ ⟨i + 1, by omega, fun j hj => ?_⟩ [some 400] (by simp only; omega) rfl ?_
        · by_cases e : j = i
          · rw [e, gi]; omega
          · exact hx j (by omega)
        · rw [giveL_succ]
          simp (maxSteps := 2000000) only [enA, ↓enP, Nat.reduceAdd, Nat.reduceMul, Nat.reduceSub, Nat.reduceLT, Nat.reduceLeDiff, Nat.reduceEqDiff, Nat.reduceBEq, ↓reduceIte, reduceCtorEq, fA, e0, hl]
          try simp [iR, gi]
  · have q1 : (i < h.tk.length) = False := eq_false c1
    have : i = h.tk.length := by omega
    subst this
    have e4 : giveErr h fans = 0 := by
      rw [e, if_neg]
      intro ha
      obtain ⟨j, hj, hd⟩ := List.any_eq_true.1 ha
      have := hx j (List.mem_range.1 hj)
      have := of_decide_eq_true hd
      omega
    have e5 : giveR h fans = giveL h fans h.tk.length := by unfold giveR; rw [e4, if_pos rfl]
    simp (maxSteps := 2000000) only [vcA, ↓vcP, ↓reduceIte, reduceCtorEq, Nat.reduceAdd, Nat.reduceMul, Nat.reduceSub, Nat.reduceLT, Nat.reduceLeDiff, Nat.reduceEqDiff, Nat.reduceBEq, Nat.reduceBNe, Nat.reduceGT, Nat.reduceDiv, Nat.reduceMod, Int.reduceAdd, Int.reduceSub, Int.reduceNeg, Int.reduceLT, Int.reduceLE, Int.reduceEq, Int.reduceToNat, fA, q1]
    refine hR _ (fin_of1 [some 152] ?_)
    rw [e4, e5]
    simp (maxSteps := 2000000) only [enA, ↓enP, Nat.reduceAdd, Nat.reduceMul, Nat.reduceSub, Nat.reduceLT, Nat.reduceLeDiff, Nat.reduceEqDiff, Nat.reduceBEq, ↓reduceIte, reduceCtorEq, fA]
    exact hl.symm
theorem setC_row {b : List En} {i : Nat} (hi : i < b.length) (c n : Int) : ((setC b i c).map enR).set i (put (((setC b i c).map enR).getD i []) 3 [DV.v (.int .i64 n)]) = (setC b i n).map enR := by
  have h1 : nth (setC b i c) i = { nth b i with c := c } := by
    unfold setC nth
    simp [List.getD_eq_getElem?_getD, hi]
  rw [nth_map enR _ i (by rw [setC_len]; exact hi), h1]
  have h2 : put (enR { nth b i with c := c }) 3 [DV.v (.int .i64 n)] = enR { nth b i with c := n } := rfl
  rw [h2, ← List.map_set]
  unfold setC
  rw [List.set_set]
theorem setC_self {b : List En} {i : Nat} (hi : i < b.length) : setC b i (nth b i).c = b := by
  unfold setC
  have : ({ nth b i with c := (nth b i).c } : En) = nth b i := rfl
  rw [this]
  apply List.ext_getElem? fun j => ?_
  by_cases e : i = j
  · subst e
    rw [List.getElem?_set_self hi, nth_eq hi]
  · rw [List.getElem?_set_ne e]
theorem setC_ok {h : Hs} {b : List En} (hb : Ok h b) {i : Nat} (hi : i < b.length) {n : Int} (hn : 0 ≤ n ∧ n ≤ mostE (nth b i)) : Ok h (setC b i n) := by
  refine ⟨hb.hs, by rw [setC_len]; exact hb.len, fun x hx => ?_⟩
  unfold setC at hx
  rcases List.mem_or_eq_of_mem_set hx with h1 | rfl
  · exact hb.en x h1
  · have := hb.en _ (nth_mem hi)
    exact ⟨this.w, this.k, hn⟩
theorem blame1_spec (h : Hs) (b : List En) (i : Nat) (n c : Int) (hb : Ok h b) (hi : i < b.length) (hn : 0 ≤ n ∧ n ≤ mostE (nth b i)) : SpecG Try.prog 56 [.v (.int .i64 n), .ptr 0 0, .ptr 1 0] [.box 74 [.v (.int .i64 h.sc), .sl 2 (h.tk.map spR), .sl 1 (h.lo.map iR), .ob 2 b.length], .box 3 [.v (.int .i64 i)], .row 60 4 ((setC b i c).map enR) false] (.v (.bool (trueB h (setC b i n) nof))) [.box 74 [.v (.int .i64 h.sc), .sl 2 (h.tk.map spR), .sl 1 (h.lo.map iR), .ob 2 b.length], .box 3 [.v (.int .i64 i)], .row 60 4 ((setC b i n).map enR) false] := by
  have hbl := hb.len
  have q1 : (i < b.length) = True := eq_true hi
  have hl := setC_len b i c
  have hs := setC_row hi c n
  refine spec_go (N := 13) (rs := [.tmp 4]) (eq := eqs) rfl rfl fun_56 rfl (by kernel_rfl) (by kernel_rfl) (by simp) (by simp) (by simp) (by simp) fun R hR => ?_
  simp (maxSteps := 2000000) only [vcA, ↓vcP, ↓reduceIte, reduceCtorEq, Nat.reduceAdd, Nat.reduceMul, Nat.reduceSub, Nat.reduceLT, Nat.reduceLeDiff, Nat.reduceEqDiff, Nat.reduceBEq, Nat.reduceBNe, Nat.reduceGT, Nat.reduceDiv, Nat.reduceMod, Int.reduceAdd, Int.reduceSub, Int.reduceNeg, Int.reduceLT, Int.reduceLE, Int.reduceEq, Int.reduceToNat, fA, q1, hl, hs]
  refine onF_call (isTrue_spec (fr := nof) h (setC b i n) (setC_ok hb hi hn) fun i _ => none_spec i) [] [2] [] ?_ ?_
  · simp (maxSteps := 2000000) only [okA, ↓okP, Nat.reduceAdd, Nat.reduceMul, Nat.reduceSub, Nat.reduceLT, Nat.reduceLeDiff, Nat.reduceEqDiff, Nat.reduceBEq, ↓reduceIte, reduceCtorEq]
  simp (maxSteps := 2000000) only [vcA, ↓vcP, ↓reduceIte, reduceCtorEq, Nat.reduceAdd, Nat.reduceMul, Nat.reduceSub, Nat.reduceLT, Nat.reduceLeDiff, Nat.reduceEqDiff, Nat.reduceBEq, Nat.reduceBNe, Nat.reduceGT, Nat.reduceDiv, Nat.reduceMod, Int.reduceAdd, Int.reduceSub, Int.reduceNeg, Int.reduceLT, Int.reduceLE, Int.reduceEq, Int.reduceToNat, fA]
  refine hR _ (fin_of1 [] ?_)
  simp (maxSteps := 2000000) only [enA, ↓enP, Nat.reduceAdd, Nat.reduceMul, Nat.reduceSub, Nat.reduceLT, Nat.reduceLeDiff, Nat.reduceEqDiff, Nat.reduceBEq, ↓reduceIte, reduceCtorEq, fA]
theorem blame2_spec (h : Hs) (b : List En) (i : Nat) (n c : Int) (hb : Ok h b) (hi : i < b.length) (hn : 0 ≤ n ∧ n ≤ mostE (nth b i)) : SpecG Try.prog 58 [.v (.int .i64 n), .ptr 0 0] [.box 77 [.fn 56 [.ptr 1 0, .ptr 2 0]], .box 74 [.v (.int .i64 h.sc), .sl 2 (h.tk.map spR), .sl 1 (h.lo.map iR), .ob 3 b.length], .box 3 [.v (.int .i64 i)], .row 60 4 ((setC b i c).map enR) false] (.v (.bool (!trueB h (setC b i n) nof))) [.box 77 [.fn 56 [.ptr 1 0, .ptr 2 0]], .box 74 [.v (.int .i64 h.sc), .sl 2 (h.tk.map spR), .sl 1 (h.lo.map iR), .ob 3 b.length], .box 3 [.v (.int .i64 i)], .row 60 4 ((setC b i n).map enR) false] := by
  refine spec_go (N := 8) (rs := [.tmp 3]) (eq := eqs) rfl rfl fun_58 rfl (by kernel_rfl) (by kernel_rfl) (by simp) (by simp) (by simp) (by simp) fun R hR => ?_
  simp (maxSteps := 2000000) only [vcA, ↓vcP, ↓reduceIte, reduceCtorEq, Nat.reduceAdd, Nat.reduceMul, Nat.reduceSub, Nat.reduceLT, Nat.reduceLeDiff, Nat.reduceEqDiff, Nat.reduceBEq, Nat.reduceBNe, Nat.reduceGT, Nat.reduceDiv, Nat.reduceMod, Int.reduceAdd, Int.reduceSub, Int.reduceNeg, Int.reduceLT, Int.reduceLE, Int.reduceEq, Int.reduceToNat, fA]
  refine onF_call (blame1_spec h b i n c hb hi hn) [] [] [1, 2, 3] ?_ ?_
  · simp (maxSteps := 2000000) only [okA, ↓okP, Nat.reduceAdd, Nat.reduceMul, Nat.reduceSub, Nat.reduceLT, Nat.reduceLeDiff, Nat.reduceEqDiff, Nat.reduceBEq, ↓reduceIte, reduceCtorEq]
  simp (maxSteps := 2000000) only [vcA, ↓vcP, ↓reduceIte, reduceCtorEq, Nat.reduceAdd, Nat.reduceMul, Nat.reduceSub, Nat.reduceLT, Nat.reduceLeDiff, Nat.reduceEqDiff, Nat.reduceBEq, Nat.reduceBNe, Nat.reduceGT, Nat.reduceDiv, Nat.reduceMod, Int.reduceAdd, Int.reduceSub, Int.reduceNeg, Int.reduceLT, Int.reduceLE, Int.reduceEq, Int.reduceToNat, fA]
  refine hR _ (fin_of1 [] ?_)
  simp (maxSteps := 2000000) only [enA, ↓enP, Nat.reduceAdd, Nat.reduceMul, Nat.reduceSub, Nat.reduceLT, Nat.reduceLeDiff, Nat.reduceEqDiff, Nat.reduceBEq, ↓reduceIte, reduceCtorEq, fA]
end Go.Proofs.Ytninkfpeeemcoaa.Ab.T07
