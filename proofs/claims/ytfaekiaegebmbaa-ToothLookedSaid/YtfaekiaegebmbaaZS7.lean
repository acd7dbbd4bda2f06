/- The contracts of sounded and Look. The reference: a blade without a crack; a column sounded. The contract of Look, of the program and of the reference. -/
import Derived.Test.YtfaekiaegebmbaaZP4
import Derived.Test.YtfaekiaegebmbaaZP0
import Derived.Test.YtfaekiaegebmbaaZM1
namespace Go.Proofs.Ytfaekiaegebmbaa.Ab.T01
open Go Go.RowKit
set_option linter.unusedSimpArgs false
set_option linter.unusedVariables false
set_option maxRecDepth 100000
def bladeBox (b : Bl) (lo tp : List Sp) : List AV := [.sl 2 (b.bottom.map spR), .sl 2 (b.top.map spR), .v (.int .i64 b.bend), .sl 6 (b.cracks.map crR), .sl 2 (lo.map spR), .sl 2 (tp.map spR)]
/-- Spans, one of them one height, bent. -/
def onlyL (bend : Int) (l : List Sp) (c : Nat) (n : Int) : List Sp := (bentS bend (l.set c (n, n))).getD []
theorem only_spec (b : Bl) (lo tp l : List Sp) (c : Nat) (n : Int) (hl : l.length ≤ 1000) (hc : c < l.length) (hok : Okl l) (hn : 0 ≤ n ∧ n ≤ 300) (hb : 0 ≤ b.bend ∧ b.bend ≤ 300) :
    SpecG Try.prog 87 [.sl 2 (l.map spR), .v (.int .i64 n), .ptr 0 0, .ptr 1 0] [.box 3 [.v (.int .i64 c)], .box 104 [.sl 2 (b.bottom.map spR), .sl 2 (b.top.map spR), .v (.int .i64 b.bend), .sl 6 (b.cracks.map crR), .sl 2 (lo.map spR), .sl 2 (tp.map spR)]]
      (.ob 2 (onlyL b.bend l c n).length) [.box 3 [.v (.int .i64 c)], .box 104 [.sl 2 (b.bottom.map spR), .sl 2 (b.top.map spR), .v (.int .i64 b.bend), .sl 6 (b.cracks.map crR), .sl 2 (lo.map spR), .sl 2 (tp.map spR)], .row 44 2 ((onlyL b.bend l c n).map spR) false] := by
  have hok2 : Okl (l.set c (n, n)) := hok.set (by simp only; omega)
  have hset : (l.map spR).set c (put ((l.map spR).getD c []) 0 [.v (.int .i64 n), .v (.int .i64 n)]) = (l.set c (n, n)).map spR := set_row l c (n, n) hc
  have q1 : (c < l.length) = True := eq_true hc
  refine spec_go (N := 25) (rs := [.tmp 6]) (eq := eqs) rfl rfl fun_87 rfl (by kernel_rfl) (by kernel_rfl) (by simp) (by simp) (by simp) (by simp) fun R hR => ?_
  simp (maxSteps := 2000000) only [vcA, ↓vcP, ↓reduceIte, reduceCtorEq, Nat.reduceAdd, Nat.reduceMul, Nat.reduceSub, Nat.reduceLT, Nat.reduceLeDiff, Nat.reduceEqDiff, Nat.reduceBEq, Nat.reduceBNe, Nat.reduceGT, Nat.reduceDiv, Nat.reduceMod, Int.reduceAdd, Int.reduceSub, Int.reduceNeg, Int.reduceLT, Int.reduceLE, Int.reduceEq, Int.reduceToNat, fA]
  refine onF_call (clone_spec l (by omega)) [] [] [] ?_ ?_
  · simp (maxSteps := 2000000) only [okA, ↓okP, Nat.reduceAdd, Nat.reduceMul, Nat.reduceSub, Nat.reduceLT, Nat.reduceLeDiff, Nat.reduceEqDiff, Nat.reduceBEq, ↓reduceIte, reduceCtorEq]
  simp (maxSteps := 2000000) only [vcA, ↓vcP, ↓reduceIte, reduceCtorEq, Nat.reduceAdd, Nat.reduceMul, Nat.reduceSub, Nat.reduceLT, Nat.reduceLeDiff, Nat.reduceEqDiff, Nat.reduceBEq, Nat.reduceBNe, Nat.reduceGT, Nat.reduceDiv, Nat.reduceMod, Int.reduceAdd, Int.reduceSub, Int.reduceNeg, Int.reduceLT, Int.reduceLE, Int.reduceEq, Int.reduceToNat, fA, q1, hset]
  refine onF_call (bent_spec (l.set c (n, n)) b.bend (by rw [List.length_set]; exact hl) hok2 hb) [24] [] [] ?_ ?_
  · simp (maxSteps := 2000000) only [okA, ↓okP, Nat.reduceAdd, Nat.reduceMul, Nat.reduceSub, Nat.reduceLT, Nat.reduceLeDiff, Nat.reduceEqDiff, Nat.reduceBEq, ↓reduceIte, reduceCtorEq]
  simp (maxSteps := 2000000) only [vcA, ↓vcP, ↓reduceIte, reduceCtorEq, Nat.reduceAdd, Nat.reduceMul, Nat.reduceSub, Nat.reduceLT, Nat.reduceLeDiff, Nat.reduceEqDiff, Nat.reduceBEq, Nat.reduceBNe, Nat.reduceGT, Nat.reduceDiv, Nat.reduceMod, Int.reduceAdd, Int.reduceSub, Int.reduceNeg, Int.reduceLT, Int.reduceLE, Int.reduceEq, Int.reduceToNat, fA]
  refine hR _ (fin_of1 [some 128] ?_)
  unfold onlyL
  simp (maxSteps := 2000000) only [enA, ↓enP, Nat.reduceAdd, Nat.reduceMul, Nat.reduceSub, Nat.reduceLT, Nat.reduceLeDiff, Nat.reduceEqDiff, Nat.reduceBEq, ↓reduceIte, reduceCtorEq, fA]
theorem sounded_spec (b : Bl) (lo tp : List Sp) (c : Nat) (h1 : lo.length ≤ 1000) (h2 : tp.length ≤ 1000) (hc1 : c < lo.length) (hc2 : c < tp.length) (o1 : Okl lo) (o2 : Okl tp) (hb : 0 ≤ b.bend ∧ b.bend ≤ 300) :
    SpecF Try.prog 55 [.agg [.sl 2 (b.bottom.map spR), .sl 2 (b.top.map spR), .v (.int .i64 b.bend), .sl 6 (b.cracks.map crR), .sl 2 (lo.map spR), .sl 2 (tp.map spR)], .v (.int .i64 c)]
      (.agg [.sl 2 (b.bottom.map spR), .sl 2 (b.top.map spR), .v (.int .i64 b.bend), .sl 6 (b.cracks.map crR), .sl 2 ((onlyL b.bend lo c (nth lo c).1).map spR), .sl 2 ((onlyL b.bend tp c (nth tp c).2).map spR)]) [] := by
  refine SpecG.frz (r := .agg [.sl 2 (b.bottom.map spR), .sl 2 (b.top.map spR), .v (.int .i64 b.bend), .sl 6 (b.cracks.map crR), .ob 0 (onlyL b.bend lo c (nth lo c).1).length, .ob 1 (onlyL b.bend tp c (nth tp c).2).length]) (objs := [.row 44 2 ((onlyL b.bend lo c (nth lo c).1).map spR) false, .row 44 2 ((onlyL b.bend tp c (nth tp c).2).map spR) false]) ?_
  have b1 := o1 _ (nth_mem hc1)
  have b2 := o2 _ (nth_mem hc2)
  have q1 : (c < lo.length) = True := eq_true hc1
  have q2 : (c < tp.length) = True := eq_true hc2
  refine spec_go (N := 30) (rs := [.cell 4 104]) (eq := eqs) rfl rfl fun_55 rfl (by kernel_rfl) (by kernel_rfl) (by simp) (by simp) (by simp) (by simp) fun R hR => ?_
  simp (maxSteps := 2000000) only [vcA, ↓vcP, ↓reduceIte, reduceCtorEq, Nat.reduceAdd, Nat.reduceMul, Nat.reduceSub, Nat.reduceLT, Nat.reduceLeDiff, Nat.reduceEqDiff, Nat.reduceBEq, Nat.reduceBNe, Nat.reduceGT, Nat.reduceDiv, Nat.reduceMod, Int.reduceAdd, Int.reduceSub, Int.reduceNeg, Int.reduceLT, Int.reduceLE, Int.reduceEq, Int.reduceToNat, fA, q1, q2, spR]
  refine onF_same (only_spec b lo tp lo c (nth lo c).1 h1 hc1 o1 (by omega) hb) [] [] [16, 8] ?_ ?_
  · simp (maxSteps := 2000000) only [okA, ↓okP, Nat.reduceAdd, Nat.reduceMul, Nat.reduceSub, Nat.reduceLT, Nat.reduceLeDiff, Nat.reduceEqDiff, Nat.reduceBEq, ↓reduceIte, reduceCtorEq, sameL, renO, ren, List.drop_succ_cons, List.drop_zero, List.length_cons, List.length_nil]
    exact ⟨rfl, rfl⟩
  simp (maxSteps := 2000000) only [vcA, ↓vcP, ↓reduceIte, reduceCtorEq, Nat.reduceAdd, Nat.reduceMul, Nat.reduceSub, Nat.reduceLT, Nat.reduceLeDiff, Nat.reduceEqDiff, Nat.reduceBEq, Nat.reduceBNe, Nat.reduceGT, Nat.reduceDiv, Nat.reduceMod, Int.reduceAdd, Int.reduceSub, Int.reduceNeg, Int.reduceLT, Int.reduceLE, Int.reduceEq, Int.reduceToNat, fA, q1, q2, spR, List.drop_succ_cons, List.drop_zero, List.length_cons, List.length_nil]
  refine onF_same (only_spec b lo tp tp c (nth tp c).2 h2 hc2 o2 (by omega) hb) [] [] [16, 8] ?_ ?_
  · simp (maxSteps := 2000000) only [okA, ↓okP, Nat.reduceAdd, Nat.reduceMul, Nat.reduceSub, Nat.reduceLT, Nat.reduceLeDiff, Nat.reduceEqDiff, Nat.reduceBEq, ↓reduceIte, reduceCtorEq, sameL, renO, ren, List.drop_succ_cons, List.drop_zero, List.length_cons, List.length_nil]
    exact ⟨rfl, rfl⟩
  simp (maxSteps := 2000000) only [vcA, ↓vcP, ↓reduceIte, reduceCtorEq, Nat.reduceAdd, Nat.reduceMul, Nat.reduceSub, Nat.reduceLT, Nat.reduceLeDiff, Nat.reduceEqDiff, Nat.reduceBEq, Nat.reduceBNe, Nat.reduceGT, Nat.reduceDiv, Nat.reduceMod, Int.reduceAdd, Int.reduceSub, Int.reduceNeg, Int.reduceLT, Int.reduceLE, Int.reduceEq, Int.reduceToNat, fA, q1, q2, spR, List.drop_succ_cons, List.drop_zero, List.length_cons, List.length_nil]
  repeat (first | refine ⟨by kernel_rfl, ?_⟩ | refine ⟨⟨by kernel_rfl, by kernel_rfl⟩, ?_⟩ | refine ⟨⟨by kernel_rfl, by kernel_rfl, by kernel_rfl⟩, ?_⟩ | refine ⟨⟨by kernel_rfl, by kernel_rfl, by kernel_rfl, by kernel_rfl⟩, ?_⟩ | refine ⟨⟨by kernel_rfl, by kernel_rfl, by kernel_rfl, by kernel_rfl, by kernel_rfl⟩, ?_⟩ | refine ⟨⟨by kernel_rfl, by kernel_rfl, by kernel_rfl, by kernel_rfl, by kernel_rfl, by kernel_rfl⟩, ?_⟩ | refine ⟨⟨by kernel_rfl, by kernel_rfl, by kernel_rfl, by kernel_rfl, by kernel_rfl, by kernel_rfl, by kernel_rfl⟩, ?_⟩ | refine ⟨⟨by kernel_rfl, by kernel_rfl, by kernel_rfl, by kernel_rfl, by kernel_rfl, by kernel_rfl, by kernel_rfl, by kernel_rfl⟩, ?_⟩ | refine ⟨⟨by kernel_rfl, by kernel_rfl, by kernel_rfl, by kernel_rfl, by kernel_rfl, by kernel_rfl, by kernel_rfl, by kernel_rfl, by kernel_rfl⟩, ?_⟩ | refine ⟨⟨by kernel_rfl, by kernel_rfl, by kernel_rfl, by kernel_rfl, by kernel_rfl, by kernel_rfl, by kernel_rfl, by kernel_rfl, by kernel_rfl, by kernel_rfl⟩, ?_⟩ | refine ⟨⟨by kernel_rfl, by kernel_rfl, by kernel_rfl, by kernel_rfl, by kernel_rfl, by kernel_rfl, by kernel_rfl, by kernel_rfl, by kernel_rfl, by kernel_rfl, by kernel_rfl⟩, ?_⟩ | refine ⟨⟨by kernel_rfl, by kernel_rfl, by kernel_rfl, by kernel_rfl, by kernel_rfl, by kernel_rfl, by kernel_rfl, by kernel_rfl, by kernel_rfl, by kernel_rfl, by kernel_rfl, by kernel_rfl⟩, ?_⟩ | refine ⟨⟨by kernel_rfl, by kernel_rfl, by kernel_rfl, by kernel_rfl, by kernel_rfl, by kernel_rfl, by kernel_rfl, by kernel_rfl, by kernel_rfl, by kernel_rfl, by kernel_rfl, by kernel_rfl, by kernel_rfl⟩, ?_⟩)
  refine hR _ (fin_of1 [some 136, some 216] ?_)
  simp (maxSteps := 2000000) only [enA, ↓enP, Nat.reduceAdd, Nat.reduceMul, Nat.reduceSub, Nat.reduceLT, Nat.reduceLeDiff, Nat.reduceEqDiff, Nat.reduceBEq, ↓reduceIte, reduceCtorEq, fA]
theorem copyO_spec (b : Bl) (h : Small b) : SpecF Try.prog 19 [.agg [.sl 2 (b.bottom.map spR), .sl 2 (b.top.map spR), .v (.int .i64 b.bend), .sl 6 (b.cracks.map crR)]] (.agg [.ob 0 b.bottom.length, .ob 1 b.top.length, .v (.int .i64 b.bend), .ob 2 b.cracks.length]) [.row 44 2 (b.bottom.map spR) false, .row 44 2 (b.top.map spR) false, .row 99 6 (b.cracks.map crR) false] := by
  obtain ⟨h1, h2, h3⟩ := h
  refine spec_go (N := 18) (rs := [.cell 2 30]) (eq := eqs) rfl rfl fun_19 rfl (by kernel_rfl) (by kernel_rfl) (by simp) (by simp) (by simp) (by simp) fun R hR => ?_
  simp (maxSteps := 2000000) only [vcA, ↓vcP, ↓reduceIte, reduceCtorEq, Nat.reduceAdd, Nat.reduceMul, Nat.reduceSub, Nat.reduceLT, Nat.reduceLeDiff, Nat.reduceEqDiff, Nat.reduceBEq, Nat.reduceBNe, Nat.reduceGT, Nat.reduceDiv, Nat.reduceMod, Int.reduceAdd, Int.reduceSub, Int.reduceNeg, Int.reduceLT, Int.reduceLE, Int.reduceEq, Int.reduceToNat, fA]
  refine ⟨⟨by omega, by simp only [maxLen]; omega⟩, fun _ => ?_⟩
  repeat (first | refine ⟨by kernel_rfl, ?_⟩ | refine ⟨⟨by kernel_rfl, by kernel_rfl⟩, ?_⟩ | refine ⟨⟨by kernel_rfl, by kernel_rfl, by kernel_rfl⟩, ?_⟩ | refine ⟨⟨by kernel_rfl, by kernel_rfl, by kernel_rfl, by kernel_rfl⟩, ?_⟩ | refine ⟨⟨by kernel_rfl, by kernel_rfl, by kernel_rfl, by kernel_rfl, by kernel_rfl⟩, ?_⟩ | refine ⟨⟨by kernel_rfl, by kernel_rfl, by kernel_rfl, by kernel_rfl, by kernel_rfl, by kernel_rfl⟩, ?_⟩ | refine ⟨⟨by kernel_rfl, by kernel_rfl, by kernel_rfl, by kernel_rfl, by kernel_rfl, by kernel_rfl, by kernel_rfl⟩, ?_⟩ | refine ⟨⟨by kernel_rfl, by kernel_rfl, by kernel_rfl, by kernel_rfl, by kernel_rfl, by kernel_rfl, by kernel_rfl, by kernel_rfl⟩, ?_⟩ | refine ⟨⟨by kernel_rfl, by kernel_rfl, by kernel_rfl, by kernel_rfl, by kernel_rfl, by kernel_rfl, by kernel_rfl, by kernel_rfl, by kernel_rfl⟩, ?_⟩ | refine ⟨⟨by kernel_rfl, by kernel_rfl, by kernel_rfl, by kernel_rfl, by kernel_rfl, by kernel_rfl, by kernel_rfl, by kernel_rfl, by kernel_rfl, by kernel_rfl⟩, ?_⟩ | refine ⟨⟨by kernel_rfl, by kernel_rfl, by kernel_rfl, by kernel_rfl, by kernel_rfl, by kernel_rfl, by kernel_rfl, by kernel_rfl, by kernel_rfl, by kernel_rfl, by kernel_rfl⟩, ?_⟩ | refine ⟨⟨by kernel_rfl, by kernel_rfl, by kernel_rfl, by kernel_rfl, by kernel_rfl, by kernel_rfl, by kernel_rfl, by kernel_rfl, by kernel_rfl, by kernel_rfl, by kernel_rfl, by kernel_rfl⟩, ?_⟩ | refine ⟨⟨by kernel_rfl, by kernel_rfl, by kernel_rfl, by kernel_rfl, by kernel_rfl, by kernel_rfl, by kernel_rfl, by kernel_rfl, by kernel_rfl, by kernel_rfl, by kernel_rfl, by kernel_rfl, by kernel_rfl⟩, ?_⟩)
  refine ⟨⟨by omega, by simp only [maxLen]; omega⟩, fun _ => ?_⟩
  repeat (first | refine ⟨by kernel_rfl, ?_⟩ | refine ⟨⟨by kernel_rfl, by kernel_rfl⟩, ?_⟩ | refine ⟨⟨by kernel_rfl, by kernel_rfl, by kernel_rfl⟩, ?_⟩ | refine ⟨⟨by kernel_rfl, by kernel_rfl, by kernel_rfl, by kernel_rfl⟩, ?_⟩ | refine ⟨⟨by kernel_rfl, by kernel_rfl, by kernel_rfl, by kernel_rfl, by kernel_rfl⟩, ?_⟩ | refine ⟨⟨by kernel_rfl, by kernel_rfl, by kernel_rfl, by kernel_rfl, by kernel_rfl, by kernel_rfl⟩, ?_⟩ | refine ⟨⟨by kernel_rfl, by kernel_rfl, by kernel_rfl, by kernel_rfl, by kernel_rfl, by kernel_rfl, by kernel_rfl⟩, ?_⟩ | refine ⟨⟨by kernel_rfl, by kernel_rfl, by kernel_rfl, by kernel_rfl, by kernel_rfl, by kernel_rfl, by kernel_rfl, by kernel_rfl⟩, ?_⟩ | refine ⟨⟨by kernel_rfl, by kernel_rfl, by kernel_rfl, by kernel_rfl, by kernel_rfl, by kernel_rfl, by kernel_rfl, by kernel_rfl, by kernel_rfl⟩, ?_⟩ | refine ⟨⟨by kernel_rfl, by kernel_rfl, by kernel_rfl, by kernel_rfl, by kernel_rfl, by kernel_rfl, by kernel_rfl, by kernel_rfl, by kernel_rfl, by kernel_rfl⟩, ?_⟩ | refine ⟨⟨by kernel_rfl, by kernel_rfl, by kernel_rfl, by kernel_rfl, by kernel_rfl, by kernel_rfl, by kernel_rfl, by kernel_rfl, by kernel_rfl, by kernel_rfl, by kernel_rfl⟩, ?_⟩ | refine ⟨⟨by kernel_rfl, by kernel_rfl, by kernel_rfl, by kernel_rfl, by kernel_rfl, by kernel_rfl, by kernel_rfl, by kernel_rfl, by kernel_rfl, by kernel_rfl, by kernel_rfl, by kernel_rfl⟩, ?_⟩ | refine ⟨⟨by kernel_rfl, by kernel_rfl, by kernel_rfl, by kernel_rfl, by kernel_rfl, by kernel_rfl, by kernel_rfl, by kernel_rfl, by kernel_rfl, by kernel_rfl, by kernel_rfl, by kernel_rfl, by kernel_rfl⟩, ?_⟩)
  refine ⟨⟨by omega, by simp only [maxLen]; omega⟩, fun _ => ?_⟩
  repeat (first | refine ⟨by kernel_rfl, ?_⟩ | refine ⟨⟨by kernel_rfl, by kernel_rfl⟩, ?_⟩ | refine ⟨⟨by kernel_rfl, by kernel_rfl, by kernel_rfl⟩, ?_⟩ | refine ⟨⟨by kernel_rfl, by kernel_rfl, by kernel_rfl, by kernel_rfl⟩, ?_⟩ | refine ⟨⟨by kernel_rfl, by kernel_rfl, by kernel_rfl, by kernel_rfl, by kernel_rfl⟩, ?_⟩ | refine ⟨⟨by kernel_rfl, by kernel_rfl, by kernel_rfl, by kernel_rfl, by kernel_rfl, by kernel_rfl⟩, ?_⟩ | refine ⟨⟨by kernel_rfl, by kernel_rfl, by kernel_rfl, by kernel_rfl, by kernel_rfl, by kernel_rfl, by kernel_rfl⟩, ?_⟩ | refine ⟨⟨by kernel_rfl, by kernel_rfl, by kernel_rfl, by kernel_rfl, by kernel_rfl, by kernel_rfl, by kernel_rfl, by kernel_rfl⟩, ?_⟩ | refine ⟨⟨by kernel_rfl, by kernel_rfl, by kernel_rfl, by kernel_rfl, by kernel_rfl, by kernel_rfl, by kernel_rfl, by kernel_rfl, by kernel_rfl⟩, ?_⟩ | refine ⟨⟨by kernel_rfl, by kernel_rfl, by kernel_rfl, by kernel_rfl, by kernel_rfl, by kernel_rfl, by kernel_rfl, by kernel_rfl, by kernel_rfl, by kernel_rfl⟩, ?_⟩ | refine ⟨⟨by kernel_rfl, by kernel_rfl, by kernel_rfl, by kernel_rfl, by kernel_rfl, by kernel_rfl, by kernel_rfl, by kernel_rfl, by kernel_rfl, by kernel_rfl, by kernel_rfl⟩, ?_⟩ | refine ⟨⟨by kernel_rfl, by kernel_rfl, by kernel_rfl, by kernel_rfl, by kernel_rfl, by kernel_rfl, by kernel_rfl, by kernel_rfl, by kernel_rfl, by kernel_rfl, by kernel_rfl, by kernel_rfl⟩, ?_⟩ | refine ⟨⟨by kernel_rfl, by kernel_rfl, by kernel_rfl, by kernel_rfl, by kernel_rfl, by kernel_rfl, by kernel_rfl, by kernel_rfl, by kernel_rfl, by kernel_rfl, by kernel_rfl, by kernel_rfl, by kernel_rfl⟩, ?_⟩)
  refine hR _ (fin_of1 [some 48, some 80, some 128] ?_)
  simp (maxSteps := 2000000) only [enA, ↓enP, Nat.reduceAdd, Nat.reduceMul, Nat.reduceSub, Nat.reduceLT, Nat.reduceLeDiff, Nat.reduceEqDiff, Nat.reduceBEq, ↓reduceIte, reduceCtorEq, fA]
def withoutB (b : Bl) (i : Nat) : Bl := { b with cracks := b.cracks.take i ++ b.cracks.drop (i + 1) }
theorem without_spec (b : Bl) (i : Nat) (h : Small b) (hi : i < b.cracks.length) : SpecF Try.prog 26 [.agg [.sl 2 (b.bottom.map spR), .sl 2 (b.top.map spR), .v (.int .i64 b.bend), .sl 6 (b.cracks.map crR)], .v (.int .i64 i)] (.agg [.sl 2 ((withoutB b i).bottom.map spR), .sl 2 ((withoutB b i).top.map spR), .v (.int .i64 (withoutB b i).bend), .sl 6 ((withoutB b i).cracks.map crR)]) [] := by
  refine SpecG.frz (r := .agg [.ob 0 b.bottom.length, .ob 1 b.top.length, .v (.int .i64 b.bend), .ob 2 (b.cracks.take i ++ b.cracks.drop (i + 1)).length]) (objs := [.row 44 2 (b.bottom.map spR) false, .row 44 2 (b.top.map spR) false, .row 99 6 ((b.cracks.take i ++ b.cracks.drop (i + 1)).map crR) false]) ?_
  have h3 := h.cracks
  have e1 : IntKind.i64.wrap ((i : Int) + 1) = ((i + 1 : Nat) : Int) := wrap_id (by omega) (by omega)
  refine spec_go (N := 22) (rs := [.cell 4 30]) (eq := eqs) rfl rfl fun_26 rfl (by kernel_rfl) (by kernel_rfl) (by simp) (by simp) (by simp) (by simp) fun R hR => ?_
  simp (maxSteps := 2000000) only [vcA, ↓vcP, ↓reduceIte, reduceCtorEq, Nat.reduceAdd, Nat.reduceMul, Nat.reduceSub, Nat.reduceLT, Nat.reduceLeDiff, Nat.reduceEqDiff, Nat.reduceBEq, Nat.reduceBNe, Nat.reduceGT, Nat.reduceDiv, Nat.reduceMod, Int.reduceAdd, Int.reduceSub, Int.reduceNeg, Int.reduceLT, Int.reduceLE, Int.reduceEq, Int.reduceToNat, fA]
  refine onF_call (copyO_spec b h) [] [] [] ?_ ?_
  · simp (maxSteps := 2000000) only [okA, ↓okP, Nat.reduceAdd, Nat.reduceMul, Nat.reduceSub, Nat.reduceLT, Nat.reduceLeDiff, Nat.reduceEqDiff, Nat.reduceBEq, ↓reduceIte, reduceCtorEq]
  simp (maxSteps := 2000000) only [vcA, ↓vcP, ↓reduceIte, reduceCtorEq, Nat.reduceAdd, Nat.reduceMul, Nat.reduceSub, Nat.reduceLT, Nat.reduceLeDiff, Nat.reduceEqDiff, Nat.reduceBEq, Nat.reduceBNe, Nat.reduceGT, Nat.reduceDiv, Nat.reduceMod, Int.reduceAdd, Int.reduceSub, Int.reduceNeg, Int.reduceLT, Int.reduceLE, Int.reduceEq, Int.reduceToNat, fA, e1]
  have z1 : (List.take i (List.map crR b.cracks)).length * 48 ≤ 140737488355328 ∧ (List.take i (List.map crR b.cracks)).length ≤ maxLen := by simp [maxLen]; omega
  have z2 : ((List.take i (List.map crR b.cracks)).length + (List.drop (i + 1) (List.map crR b.cracks)).length) * 48 ≤ 140737488355328 ∧ (List.take i (List.map crR b.cracks)).length + (List.drop (i + 1) (List.map crR b.cracks)).length ≤ maxLen := by simp [maxLen]; omega
  refine ⟨by omega, fun _ => ⟨z1, fun _ => ?_⟩⟩
  repeat (first | refine ⟨by kernel_rfl, ?_⟩ | refine ⟨⟨by kernel_rfl, by kernel_rfl⟩, ?_⟩ | refine ⟨⟨by kernel_rfl, by kernel_rfl, by kernel_rfl⟩, ?_⟩ | refine ⟨⟨by kernel_rfl, by kernel_rfl, by kernel_rfl, by kernel_rfl⟩, ?_⟩ | refine ⟨⟨by kernel_rfl, by kernel_rfl, by kernel_rfl, by kernel_rfl, by kernel_rfl⟩, ?_⟩ | refine ⟨⟨by kernel_rfl, by kernel_rfl, by kernel_rfl, by kernel_rfl, by kernel_rfl, by kernel_rfl⟩, ?_⟩ | refine ⟨⟨by kernel_rfl, by kernel_rfl, by kernel_rfl, by kernel_rfl, by kernel_rfl, by kernel_rfl, by kernel_rfl⟩, ?_⟩ | refine ⟨⟨by kernel_rfl, by kernel_rfl, by kernel_rfl, by kernel_rfl, by kernel_rfl, by kernel_rfl, by kernel_rfl, by kernel_rfl⟩, ?_⟩ | refine ⟨⟨by kernel_rfl, by kernel_rfl, by kernel_rfl, by kernel_rfl, by kernel_rfl, by kernel_rfl, by kernel_rfl, by kernel_rfl, by kernel_rfl⟩, ?_⟩ | refine ⟨⟨by kernel_rfl, by kernel_rfl, by kernel_rfl, by kernel_rfl, by kernel_rfl, by kernel_rfl, by kernel_rfl, by kernel_rfl, by kernel_rfl, by kernel_rfl⟩, ?_⟩ | refine ⟨⟨by kernel_rfl, by kernel_rfl, by kernel_rfl, by kernel_rfl, by kernel_rfl, by kernel_rfl, by kernel_rfl, by kernel_rfl, by kernel_rfl, by kernel_rfl, by kernel_rfl⟩, ?_⟩ | refine ⟨⟨by kernel_rfl, by kernel_rfl, by kernel_rfl, by kernel_rfl, by kernel_rfl, by kernel_rfl, by kernel_rfl, by kernel_rfl, by kernel_rfl, by kernel_rfl, by kernel_rfl, by kernel_rfl⟩, ?_⟩ | refine ⟨⟨by kernel_rfl, by kernel_rfl, by kernel_rfl, by kernel_rfl, by kernel_rfl, by kernel_rfl, by kernel_rfl, by kernel_rfl, by kernel_rfl, by kernel_rfl, by kernel_rfl, by kernel_rfl, by kernel_rfl⟩, ?_⟩)
  refine ⟨by omega, fun _ => ⟨z2, fun _ => ?_⟩⟩
  repeat (first | refine ⟨by kernel_rfl, ?_⟩ | refine ⟨⟨by kernel_rfl, by kernel_rfl⟩, ?_⟩ | refine ⟨⟨by kernel_rfl, by kernel_rfl, by kernel_rfl⟩, ?_⟩ | refine ⟨⟨by kernel_rfl, by kernel_rfl, by kernel_rfl, by kernel_rfl⟩, ?_⟩ | refine ⟨⟨by kernel_rfl, by kernel_rfl, by kernel_rfl, by kernel_rfl, by kernel_rfl⟩, ?_⟩ | refine ⟨⟨by kernel_rfl, by kernel_rfl, by kernel_rfl, by kernel_rfl, by kernel_rfl, by kernel_rfl⟩, ?_⟩ | refine ⟨⟨by kernel_rfl, by kernel_rfl, by kernel_rfl, by kernel_rfl, by kernel_rfl, by kernel_rfl, by kernel_rfl⟩, ?_⟩ | refine ⟨⟨by kernel_rfl, by kernel_rfl, by kernel_rfl, by kernel_rfl, by kernel_rfl, by kernel_rfl, by kernel_rfl, by kernel_rfl⟩, ?_⟩ | refine ⟨⟨by kernel_rfl, by kernel_rfl, by kernel_rfl, by kernel_rfl, by kernel_rfl, by kernel_rfl, by kernel_rfl, by kernel_rfl, by kernel_rfl⟩, ?_⟩ | refine ⟨⟨by kernel_rfl, by kernel_rfl, by kernel_rfl, by kernel_rfl, by kernel_rfl, by kernel_rfl, by kernel_rfl, by kernel_rfl, by kernel_rfl, by kernel_rfl⟩, ?_⟩ | refine ⟨⟨by kernel_rfl, by kernel_rfl, by kernel_rfl, by kernel_rfl, by kernel_rfl, by kernel_rfl, by kernel_rfl, by kernel_rfl, by kernel_rfl, by kernel_rfl, by kernel_rfl⟩, ?_⟩ | refine ⟨⟨by kernel_rfl, by kernel_rfl, by kernel_rfl, by kernel_rfl, by kernel_rfl, by kernel_rfl, by kernel_rfl, by kernel_rfl, by kernel_rfl, by kernel_rfl, by kernel_rfl, by kernel_rfl⟩, ?_⟩ | refine ⟨⟨by kernel_rfl, by kernel_rfl, by kernel_rfl, by kernel_rfl, by kernel_rfl, by kernel_rfl, by kernel_rfl, by kernel_rfl, by kernel_rfl, by kernel_rfl, by kernel_rfl, by kernel_rfl, by kernel_rfl⟩, ?_⟩)
  refine hR _ (fin_of1 [some 32, some 33, some 144] ?_)
  simp (maxSteps := 2000000) only [enA, ↓enP, Nat.reduceAdd, Nat.reduceMul, Nat.reduceSub, Nat.reduceLT, Nat.reduceLeDiff, Nat.reduceEqDiff, Nat.reduceBEq, ↓reduceIte, reduceCtorEq, fA]
  simp
def soundedB (b : Bl) (i : Nat) : Bl := { b with bottom := b.bottom.set i ((nth (newLow b) i).1, (nth (newLow b) i).1), top := b.top.set i ((nth (newTop b) i).2, (nth (newTop b) i).2) }
theorem sounded2_spec (b : Bl) (i : Nat) (h : Small b) (hN : newErr b = 0) (hi : i < b.bottom.length) : SpecF Try.prog 61 [.agg [.sl 2 (b.bottom.map spR), .sl 2 (b.top.map spR), .v (.int .i64 b.bend), .sl 6 (b.cracks.map crR)], .v (.int .i64 i)] (.agg [.sl 2 ((soundedB b i).bottom.map spR), .sl 2 ((soundedB b i).top.map spR), .v (.int .i64 (soundedB b i).bend), .sl 6 ((soundedB b i).cracks.map crR)]) [] := by
  have hf : formErr b = 0 := by
    unfold newErr at hN
    split at hN
    · rename_i h1; exact absurd hN h1
    · rename_i h1; simpa using h1
  obtain ⟨n0, o1, o2, l1, l2, g1, g2, g3, _⟩ := new_ok hN
  obtain ⟨f1, f2, f3, f4, f5, f6, f7⟩ := form_ok hf
  obtain ⟨k1, k2⟩ := edges_okl f1 f6
  have c1 : newLow b = (bentS b.bend b.bottom).getD [] := by unfold newLow; rw [if_pos hN]
  have c2 : newTop b = (bentS b.bend b.top).getD [] := by unfold newTop; rw [if_pos hN]
  have s1 := curve2_spec b.bottom b.bend (by omega) k1 f5
  have s2 := curve2_spec b.top b.bend (by omega) k2 f5
  rw [← c1] at s1
  rw [← c2] at s2
  refine SpecG.frz (r := .agg [.ob 0 (soundedB b i).bottom.length, .ob 1 (soundedB b i).top.length, .v (.int .i64 b.bend), .ob 2 b.cracks.length]) (objs := [.row 44 2 ((soundedB b i).bottom.map spR) false, .row 44 2 ((soundedB b i).top.map spR) false, .row 99 6 (b.cracks.map crR) false]) ?_
  have eb : (soundedB b i).bottom = b.bottom.set i ((nth (newLow b) i).1, (nth (newLow b) i).1) := rfl
  have et : (soundedB b i).top = b.top.set i ((nth (newTop b) i).2, (nth (newTop b) i).2) := rfl
  rw [eb, et]
  generalize newLow b = lo at *
  generalize newTop b = tp at *
  have q1 : (i < lo.length) = True := eq_true (by omega)
  have q2 : (i < tp.length) = True := eq_true (by omega)
  have q3 : (i < b.bottom.length) = True := eq_true (by omega)
  have q4 : (i < b.top.length) = True := eq_true (by omega)
  have hs1 : (b.bottom.map spR).set i (put ((b.bottom.map spR).getD i []) 0 [.v (.int .i64 (nth lo i).1), .v (.int .i64 (nth lo i).1)]) = (b.bottom.set i ((nth lo i).1, (nth lo i).1)).map spR := set_row b.bottom i ((nth lo i).1, (nth lo i).1) hi
  have hs2 : (b.top.map spR).set i (put ((b.top.map spR).getD i []) 0 [.v (.int .i64 (nth tp i).2), .v (.int .i64 (nth tp i).2)]) = (b.top.set i ((nth tp i).2, (nth tp i).2)).map spR := set_row b.top i ((nth tp i).2, (nth tp i).2) (by omega)
  refine spec_go (N := 43) (rs := [.cell 4 30]) (eq := eqs) rfl rfl fun_61 rfl (by kernel_rfl) (by kernel_rfl) (by simp) (by simp) (by simp) (by simp) fun R hR => ?_
  simp (maxSteps := 2000000) only [vcA, ↓vcP, ↓reduceIte, reduceCtorEq, Nat.reduceAdd, Nat.reduceMul, Nat.reduceSub, Nat.reduceLT, Nat.reduceLeDiff, Nat.reduceEqDiff, Nat.reduceBEq, Nat.reduceBNe, Nat.reduceGT, Nat.reduceDiv, Nat.reduceMod, Int.reduceAdd, Int.reduceSub, Int.reduceNeg, Int.reduceLT, Int.reduceLE, Int.reduceEq, Int.reduceToNat, fA]
  refine onF_call (copyO_spec b h) [] [] [] ?_ ?_
  · simp (maxSteps := 2000000) only [okA, ↓okP, Nat.reduceAdd, Nat.reduceMul, Nat.reduceSub, Nat.reduceLT, Nat.reduceLeDiff, Nat.reduceEqDiff, Nat.reduceBEq, ↓reduceIte, reduceCtorEq]
  simp (maxSteps := 2000000) only [vcA, ↓vcP, ↓reduceIte, reduceCtorEq, Nat.reduceAdd, Nat.reduceMul, Nat.reduceSub, Nat.reduceLT, Nat.reduceLeDiff, Nat.reduceEqDiff, Nat.reduceBEq, Nat.reduceBNe, Nat.reduceGT, Nat.reduceDiv, Nat.reduceMod, Int.reduceAdd, Int.reduceSub, Int.reduceNeg, Int.reduceLT, Int.reduceLE, Int.reduceEq, Int.reduceToNat, fA]
  refine onF_data s1 ?_ ?_
  · simp (maxSteps := 2000000) only [okA, ↓okP, Nat.reduceAdd, Nat.reduceMul, Nat.reduceSub, Nat.reduceLT, Nat.reduceLeDiff, Nat.reduceEqDiff, Nat.reduceBEq, ↓reduceIte, reduceCtorEq]
  simp (maxSteps := 2000000) only [vcA, ↓vcP, ↓reduceIte, reduceCtorEq, Nat.reduceAdd, Nat.reduceMul, Nat.reduceSub, Nat.reduceLT, Nat.reduceLeDiff, Nat.reduceEqDiff, Nat.reduceBEq, Nat.reduceBNe, Nat.reduceGT, Nat.reduceDiv, Nat.reduceMod, Int.reduceAdd, Int.reduceSub, Int.reduceNeg, Int.reduceLT, Int.reduceLE, Int.reduceEq, Int.reduceToNat, fA, q1, spR]
  refine onF_data s2 ?_ ?_
  · simp (maxSteps := 2000000) only [okA, ↓okP, Nat.reduceAdd, Nat.reduceMul, Nat.reduceSub, Nat.reduceLT, Nat.reduceLeDiff, Nat.reduceEqDiff, Nat.reduceBEq, ↓reduceIte, reduceCtorEq]
  simp (maxSteps := 2000000) only [vcA, ↓vcP, ↓reduceIte, reduceCtorEq, Nat.reduceAdd, Nat.reduceMul, Nat.reduceSub, Nat.reduceLT, Nat.reduceLeDiff, Nat.reduceEqDiff, Nat.reduceBEq, Nat.reduceBNe, Nat.reduceGT, Nat.reduceDiv, Nat.reduceMod, Int.reduceAdd, Int.reduceSub, Int.reduceNeg, Int.reduceLT, Int.reduceLE, Int.reduceEq, Int.reduceToNat, fA, q2, q3, q4, spR, hs1, hs2]
  repeat (first | refine ⟨by kernel_rfl, ?_⟩ | refine ⟨⟨by kernel_rfl, by kernel_rfl⟩, ?_⟩ | refine ⟨⟨by kernel_rfl, by kernel_rfl, by kernel_rfl⟩, ?_⟩ | refine ⟨⟨by kernel_rfl, by kernel_rfl, by kernel_rfl, by kernel_rfl⟩, ?_⟩ | refine ⟨⟨by kernel_rfl, by kernel_rfl, by kernel_rfl, by kernel_rfl, by kernel_rfl⟩, ?_⟩ | refine ⟨⟨by kernel_rfl, by kernel_rfl, by kernel_rfl, by kernel_rfl, by kernel_rfl, by kernel_rfl⟩, ?_⟩ | refine ⟨⟨by kernel_rfl, by kernel_rfl, by kernel_rfl, by kernel_rfl, by kernel_rfl, by kernel_rfl, by kernel_rfl⟩, ?_⟩ | refine ⟨⟨by kernel_rfl, by kernel_rfl, by kernel_rfl, by kernel_rfl, by kernel_rfl, by kernel_rfl, by kernel_rfl, by kernel_rfl⟩, ?_⟩ | refine ⟨⟨by kernel_rfl, by kernel_rfl, by kernel_rfl, by kernel_rfl, by kernel_rfl, by kernel_rfl, by kernel_rfl, by kernel_rfl, by kernel_rfl⟩, ?_⟩ | refine ⟨⟨by kernel_rfl, by kernel_rfl, by kernel_rfl, by kernel_rfl, by kernel_rfl, by kernel_rfl, by kernel_rfl, by kernel_rfl, by kernel_rfl, by kernel_rfl⟩, ?_⟩ | refine ⟨⟨by kernel_rfl, by kernel_rfl, by kernel_rfl, by kernel_rfl, by kernel_rfl, by kernel_rfl, by kernel_rfl, by kernel_rfl, by kernel_rfl, by kernel_rfl, by kernel_rfl⟩, ?_⟩ | refine ⟨⟨by kernel_rfl, by kernel_rfl, by kernel_rfl, by kernel_rfl, by kernel_rfl, by kernel_rfl, by kernel_rfl, by kernel_rfl, by kernel_rfl, by kernel_rfl, by kernel_rfl, by kernel_rfl⟩, ?_⟩ | refine ⟨⟨by kernel_rfl, by kernel_rfl, by kernel_rfl, by kernel_rfl, by kernel_rfl, by kernel_rfl, by kernel_rfl, by kernel_rfl, by kernel_rfl, by kernel_rfl, by kernel_rfl, by kernel_rfl, by kernel_rfl⟩, ?_⟩)
  refine hR _ (fin_of1 [some 32, some 33, some 34] ?_)
  simp (maxSteps := 2000000) only [enA, ↓enP, Nat.reduceAdd, Nat.reduceMul, Nat.reduceSub, Nat.reduceLT, Nat.reduceLeDiff, Nat.reduceEqDiff, Nat.reduceBEq, ↓reduceIte, reduceCtorEq, fA]
  simp
/-- The first greatest gain, and its column. -/
def lookG (g : Nat → Int) : Nat → Int × Int
  | 0 => (0, 0)
  | i + 1 => if g i > (lookG g i).2 then ((i : Int), g i) else lookG g i
/-- The sticks of a sounded blade, less those of the blade. -/
def gainI (b : Bl) (s : Sw) (i : Nat) : Int := ((mostI (sureV (onlyL b.bend (newLow b) i (nth (newLow b) i).1) (onlyL b.bend (newTop b) i (nth (newTop b) i).2) b.cracks) s).length : Int) - (mostI (sureB b) s).length
def lookR (b : Bl) (s : Sw) : Int × Int × Int := if openErr b s ≠ 0 then (0, 0, openErr b s) else if (lookG (gainI b s) b.bottom.length).2 = 0 then (0, 0, 7) else ((lookG (gainI b s) b.bottom.length).1, (lookG (gainI b s) b.bottom.length).2, 0)
theorem nth_ok {L : List Sp} (h : Okl L) {i : Nat} (hi : i < L.length) : 0 ≤ (nth L i).1 ∧ (nth L i).1 ≤ (nth L i).2 ∧ (nth L i).2 ≤ 300 := h _ (nth_mem hi)
/-- A sounded blade is a blade. -/
theorem sounded_new {b : Bl} (hN : newErr b = 0) {i : Nat} (hi : i < b.bottom.length) : newErr (soundedB b i) = 0 ∧ newLow (soundedB b i) = onlyL b.bend (newLow b) i (nth (newLow b) i).1 ∧ newTop (soundedB b i) = onlyL b.bend (newTop b) i (nth (newTop b) i).2 ∧
    (onlyL b.bend (newLow b) i (nth (newLow b) i).1).length = b.bottom.length ∧ (onlyL b.bend (newTop b) i (nth (newTop b) i).2).length = b.bottom.length ∧ Okl (onlyL b.bend (newLow b) i (nth (newLow b) i).1) ∧ Okl (onlyL b.bend (newTop b) i (nth (newTop b) i).2) := by
  have hf : formErr b = 0 := by
    unfold newErr at hN
    split at hN
    · rename_i h1; exact absurd hN h1
    · rename_i h1; simpa using h1
  obtain ⟨n0, o1, o2, l1, l2, g1, g2, g3, g4⟩ := new_ok hN
  obtain ⟨f1, f2, f3, f4, f5, f6, f7⟩ := form_ok hf
  obtain ⟨k1, k2⟩ := edges_okl f1 f6
  have hsome : ∃ R, bentS b.bend b.bottom = some R := by
    cases h : bentS b.bend b.bottom with
    | some R => exact ⟨R, rfl⟩
    | none =>
      unfold newErr at hN
      rw [if_neg (by rw [hf]; simp), if_pos (.inl (by rw [h]; rfl))] at hN
      cases hN
  have hsome2 : ∃ R, bentS b.bend b.top = some R := by
    cases h : bentS b.bend b.top with
    | some R => exact ⟨R, rfl⟩
    | none =>
      unfold newErr at hN
      rw [if_neg (by rw [hf]; simp), if_pos (.inr (by rw [h]; rfl))] at hN
      cases hN
  obtain ⟨R1, r1⟩ := hsome
  obtain ⟨R2, r2⟩ := hsome2
  have c1 : newLow b = R1 := by unfold newLow; rw [if_pos hN, r1]; rfl
  have c2 : newTop b = R2 := by unfold newTop; rw [if_pos hN, r2]; rfl
  rw [c1] at l1 o1
  rw [c2] at l2 o2
  have m1 := nth_ok o1 (i := i) (by omega)
  have m2 := nth_ok o2 (i := i) (by omega)
  obtain ⟨S1, s1, t1⟩ := bent_sound k1 f5.1 r1 hi (n := (nth R1 i).1) ⟨Int.le_refl _, m1.2.1⟩
  obtain ⟨S2, s2, t2⟩ := bent_sound k2 f5.1 r2 (by omega) (n := (nth R2 i).2) ⟨m2.2.1, Int.le_refl _⟩
  have e1 : onlyL b.bend (newLow b) i (nth (newLow b) i).1 = S1 := by unfold onlyL; rw [c1, t1]; rfl
  have e2 : onlyL b.bend (newTop b) i (nth (newTop b) i).2 = S2 := by unfold onlyL; rw [c2, t2]; rfl
  have q1 : inS (nth b.bottom i) (nth R1 i).1 := by
    obtain ⟨R', h1, h2, h3, h4⟩ := bent_some k1 f5.1 (bent_none k1 f5.1 (by omega) ⟨R1, r1⟩)
    rw [r1] at h1
    cases h1
    obtain ⟨p, hp, e⟩ := (h4 i hi (nth R1 i).1).1 ⟨Int.le_refl _, m1.2.1⟩
    rw [← e]
    exact hp.mem i hi
  have q2 : inS (nth b.top i) (nth R2 i).2 := by
    obtain ⟨R', h1, h2, h3, h4⟩ := bent_some k2 f5.1 (bent_none k2 f5.1 (by omega) ⟨R2, r2⟩)
    rw [r2] at h1
    cases h1
    obtain ⟨p, hp, e⟩ := (h4 i (by omega) (nth R2 i).2).1 ⟨m2.2.1, Int.le_refl _⟩
    rw [← e]
    exact hp.mem i (by omega)
  have w1 := bentS_ok (okl_set k1 hi q1) s1
  have w2 := bentS_ok (okl_set k2 (by omega) q2) s2
  have eb : soundedB b i = ⟨b.bottom.set i ((nth R1 i).1, (nth R1 i).1), b.top.set i ((nth R2 i).2, (nth R2 i).2), b.bend, b.cracks⟩ := by unfold soundedB; rw [c1, c2]
  have hE : newErr (soundedB b i) = 0 := by
    have hb0 : betw 0 300 [b.bend] = true := by simp [betw]; omega
    have hfe : formErr (soundedB b i) = 0 := by
      rw [eb]
      unfold formErr
      simp only [List.length_set]
      rw [if_neg, if_neg (by omega), if_neg, if_neg]
      · have : edgesOk ⟨b.bottom.set i ((nth R1 i).1, (nth R1 i).1), b.top.set i ((nth R2 i).2, (nth R2 i).2), b.bend, b.cracks⟩ = true := by
          unfold edgesOk
          rw [List.all_eq_true]
          intro j hj
          have hj : j < b.bottom.length := by have := List.mem_range.1 hj; simpa using this
          simp only
          rw [nth_set _ _ _ _ hj, nth_set _ _ _ _ (by omega)]
          have he := List.all_eq_true.1 f6 j (List.mem_range.2 hj)
          by_cases e : i = j
          · subst e
            rw [if_pos rfl, if_pos rfl]
            unfold inS at q1 q2
            have b1 := k1 _ (nth_mem (l := b.bottom) (i := i) hi)
            have b2 := k2 _ (nth_mem (l := b.top) (i := i) (by omega))
            have hle : (nth b.bottom i).2 ≤ (nth b.top i).1 := by
              unfold isEdges at he
              simp only [Bool.and_eq_true, decide_eq_true_eq] at he
              exact he.2
            simp [isEdges, isHeight, isSpan, betw]
            omega
          · rw [if_neg e, if_neg e]
            exact he
        rw [this]; simp
      · rintro (h | h)
        · rw [hb0] at h; cases h
        · rw [f7] at h; cases h
      · rintro (h | h)
        · exact h f1
        · have : betw 1 30 [(b.bottom.length : Int)] = true := by simp [betw]; omega
          rw [this] at h; cases h
    unfold newErr
    rw [if_neg (by rw [hfe]; simp), if_neg]
    rw [eb, s1, s2]
    simp
  refine ⟨hE, ?_, ?_, ?_, ?_, ?_, ?_⟩
  · rw [e1]; unfold newLow; rw [if_pos hE, eb, s1]; rfl
  · rw [e2]; unfold newTop; rw [if_pos hE, eb, s2]; rfl
  · rw [e1, w1.2, List.length_set]
  · rw [e2, w2.2, List.length_set, ← f1]
  · rw [e1]; exact w1.1
  · rw [e2]; exact w2.1
end Go.Proofs.Ytfaekiaegebmbaa.Ab.T01
