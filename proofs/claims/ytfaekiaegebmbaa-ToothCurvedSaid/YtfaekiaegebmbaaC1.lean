/- Contracts of the blade's functions: what is valid. -/
import Derived.Test.YtfaekiaegebmbaaU1
namespace Go.Proofs.Ytfaekiaegebmbaa.Ab
open Go Go.RowKit
set_option linter.unusedVariables false
set_option linter.unusedSimpArgs false
set_option maxRecDepth 100000
theorem tooth_bad : BadG 97 := by
  intro n lo hi
  refine spec_go (N := 13) (rs := [.tmp 4]) (eq := eqs) rfl rfl fun_97 rfl (by kernel_rfl) (by kernel_rfl) (by simp) (by simp) (by simp) (by simp) fun R hR => ?_
  simp (maxSteps := 2000000) only [vcA, ↓vcP, ↓reduceIte, reduceCtorEq, Nat.reduceAdd, Nat.reduceMul, Nat.reduceSub, Nat.reduceLT, Nat.reduceLeDiff, Nat.reduceEqDiff, Nat.reduceBEq, Nat.reduceBNe, Nat.reduceGT, Nat.reduceDiv, Nat.reduceMod, Int.reduceAdd, Int.reduceSub, Int.reduceNeg, Int.reduceLT, Int.reduceLE, Int.reduceEq, Int.reduceToNat, fA]
  refine ⟨fun h => hR _ (fin_of1 [] ?_), fun h => hR _ (fin_of1 [] ?_)⟩
  · simp (maxSteps := 2000000) only [enA, ↓enP, Nat.reduceAdd, Nat.reduceMul, Nat.reduceSub, Nat.reduceLT, Nat.reduceLeDiff, Nat.reduceEqDiff, Nat.reduceBEq, ↓reduceIte, reduceCtorEq, fA]
    simp [bad]; omega
  · simp (maxSteps := 2000000) only [enA, ↓enP, Nat.reduceAdd, Nat.reduceMul, Nat.reduceSub, Nat.reduceLT, Nat.reduceLeDiff, Nat.reduceEqDiff, Nat.reduceBEq, ↓reduceIte, reduceCtorEq, fA]
    simp [bad]; omega
theorem tooth_within (lo hi : Int) (l : List Int) (hl : l.length < 1000000) : SpecF Try.prog 75 [.v (.int .i64 lo), .v (.int .i64 hi), .sl 1 (l.map iR)] (.v (.bool (betw lo hi l))) [] := by
  rw [← betw_idx]
  refine spec_go (N := 11) (rs := [.tmp 6]) (eq := eqs) rfl rfl fun_75 rfl (by kernel_rfl) (by kernel_rfl) (by simp) (by simp) (by simp) (by simp) fun R hR => ?_
  simp (maxSteps := 2000000) only [vcA, ↓vcP, ↓reduceIte, reduceCtorEq, Nat.reduceAdd, Nat.reduceMul, Nat.reduceSub, Nat.reduceLT, Nat.reduceLeDiff, Nat.reduceEqDiff, Nat.reduceBEq, Nat.reduceBNe, Nat.reduceGT, Nat.reduceDiv, Nat.reduceMod, Int.reduceAdd, Int.reduceSub, Int.reduceNeg, Int.reduceLT, Int.reduceLE, Int.reduceEq, Int.reduceToNat, fA]
  refine onF_call (contains_spec tooth_bad lo hi l hl) [] [] [8, 16] ?_ ?_
  · simp (maxSteps := 2000000) only [okA, ↓okP, Nat.reduceAdd, Nat.reduceMul, Nat.reduceSub, Nat.reduceLT, Nat.reduceLeDiff, Nat.reduceEqDiff, Nat.reduceBEq, ↓reduceIte, reduceCtorEq]
  · simp (maxSteps := 2000000) only [vcA, ↓vcP, ↓reduceIte, reduceCtorEq, Nat.reduceAdd, Nat.reduceMul, Nat.reduceSub, Nat.reduceLT, Nat.reduceLeDiff, Nat.reduceEqDiff, Nat.reduceBEq, Nat.reduceBNe, Nat.reduceGT, Nat.reduceDiv, Nat.reduceMod, Int.reduceAdd, Int.reduceSub, Int.reduceNeg, Int.reduceLT, Int.reduceLE, Int.reduceEq, Int.reduceToNat, fA]
    refine hR _ (fin_of0 ?_)
    simp (maxSteps := 2000000) only [enA, ↓enP, Nat.reduceAdd, Nat.reduceMul, Nat.reduceSub, Nat.reduceLT, Nat.reduceLeDiff, Nat.reduceEqDiff, Nat.reduceBEq, ↓reduceIte, reduceCtorEq, fA]

abbrev Sp := Int × Int
def spR (s : Sp) : List DV := [.v (.int .i64 s.1), .v (.int .i64 s.2)]
structure Crk where
  col : Sp
  frm : Sp
  to : Sp
instance : Inhabited Crk := ⟨⟨default, default, default⟩⟩
def crR (c : Crk) : List DV := [.v (.int .i64 c.col.1), .v (.int .i64 c.col.2), .v (.int .i64 c.frm.1), .v (.int .i64 c.frm.2), .v (.int .i64 c.to.1), .v (.int .i64 c.to.2)]
def isSpan (s : Sp) (a b : Int) : Bool := betw a b [s.1, s.2] && decide (s.1 ≤ s.2)
def isHeight (s : Sp) : Bool := isSpan s 0 300
def isEdges (b t : Sp) : Bool := isHeight b && isHeight t && decide (b.2 ≤ t.1)
def isCrack (c : Crk) (n : Int) : Bool := isSpan c.col 0 (n - 1) && decide (c.col.2 - c.col.1 < 5) && isEdges c.frm c.to
theorem isSpan_spec (s : Sp) (a b : Int) : SpecF Try.prog 108 [.agg [.v (.int .i64 s.1), .v (.int .i64 s.2)], .v (.int .i64 a), .v (.int .i64 b)] (.v (.bool (isSpan s a b))) [] := by
  refine spec_go (N := 22) (rs := [.tmp 6]) (eq := eqs) rfl rfl fun_108 rfl (by kernel_rfl) (by kernel_rfl) (by simp) (by simp) (by simp) (by simp) fun R hR => ?_
  simp (maxSteps := 2000000) only [vcA, ↓vcP, ↓reduceIte, reduceCtorEq, Nat.reduceAdd, Nat.reduceMul, Nat.reduceSub, Nat.reduceLT, Nat.reduceLeDiff, Nat.reduceEqDiff, Nat.reduceBEq, Nat.reduceBNe, Nat.reduceGT, Nat.reduceDiv, Nat.reduceMod, Int.reduceAdd, Int.reduceSub, Int.reduceNeg, Int.reduceLT, Int.reduceLE, Int.reduceEq, Int.reduceToNat, fA]
  refine onF_call3 (tooth_within a b [s.1, s.2] (by simp)) ?_ ?_
  · simp (maxSteps := 2000000) only [okA, ↓okP, Nat.reduceAdd, Nat.reduceMul, Nat.reduceSub, Nat.reduceLT, Nat.reduceLeDiff, Nat.reduceEqDiff, Nat.reduceBEq, ↓reduceIte, reduceCtorEq]
    rfl
  simp (maxSteps := 2000000) only [vcA, ↓vcP, ↓reduceIte, reduceCtorEq, Nat.reduceAdd, Nat.reduceMul, Nat.reduceSub, Nat.reduceLT, Nat.reduceLeDiff, Nat.reduceEqDiff, Nat.reduceBEq, Nat.reduceBNe, Nat.reduceGT, Nat.reduceDiv, Nat.reduceMod, Int.reduceAdd, Int.reduceSub, Int.reduceNeg, Int.reduceLT, Int.reduceLE, Int.reduceEq, Int.reduceToNat, fA]
  refine ⟨fun h => hR _ (fin_of0 ?_), fun h => hR _ (fin_of0 ?_)⟩
  · simp (maxSteps := 2000000) only [enA, ↓enP, Nat.reduceAdd, Nat.reduceMul, Nat.reduceSub, Nat.reduceLT, Nat.reduceLeDiff, Nat.reduceEqDiff, Nat.reduceBEq, ↓reduceIte, reduceCtorEq, fA]
    simp [isSpan, h]
  · simp (maxSteps := 2000000) only [enA, ↓enP, Nat.reduceAdd, Nat.reduceMul, Nat.reduceSub, Nat.reduceLT, Nat.reduceLeDiff, Nat.reduceEqDiff, Nat.reduceBEq, ↓reduceIte, reduceCtorEq, fA]
    simp [isSpan, h]
theorem isHeight_spec (s : Sp) : SpecF Try.prog 109 [.agg [.v (.int .i64 s.1), .v (.int .i64 s.2)]] (.v (.bool (isHeight s))) [] := by
  refine spec_go (N := 5) (rs := [.tmp 2]) (eq := eqs) rfl rfl fun_109 rfl (by kernel_rfl) (by kernel_rfl) (by simp) (by simp) (by simp) (by simp) fun R hR => ?_
  simp (maxSteps := 2000000) only [vcA, ↓vcP, ↓reduceIte, reduceCtorEq, Nat.reduceAdd, Nat.reduceMul, Nat.reduceSub, Nat.reduceLT, Nat.reduceLeDiff, Nat.reduceEqDiff, Nat.reduceBEq, Nat.reduceBNe, Nat.reduceGT, Nat.reduceDiv, Nat.reduceMod, Int.reduceAdd, Int.reduceSub, Int.reduceNeg, Int.reduceLT, Int.reduceLE, Int.reduceEq, Int.reduceToNat, fA]
  refine onF_data (isSpan_spec s 0 300) ?_ ?_
  · simp (maxSteps := 2000000) only [okA, ↓okP, Nat.reduceAdd, Nat.reduceMul, Nat.reduceSub, Nat.reduceLT, Nat.reduceLeDiff, Nat.reduceEqDiff, Nat.reduceBEq, ↓reduceIte, reduceCtorEq]
  simp (maxSteps := 2000000) only [vcA, ↓vcP, ↓reduceIte, reduceCtorEq, Nat.reduceAdd, Nat.reduceMul, Nat.reduceSub, Nat.reduceLT, Nat.reduceLeDiff, Nat.reduceEqDiff, Nat.reduceBEq, Nat.reduceBNe, Nat.reduceGT, Nat.reduceDiv, Nat.reduceMod, Int.reduceAdd, Int.reduceSub, Int.reduceNeg, Int.reduceLT, Int.reduceLE, Int.reduceEq, Int.reduceToNat, fA]
  refine hR _ (fin_of0 ?_)
  simp (maxSteps := 2000000) only [enA, ↓enP, Nat.reduceAdd, Nat.reduceMul, Nat.reduceSub, Nat.reduceLT, Nat.reduceLeDiff, Nat.reduceEqDiff, Nat.reduceBEq, ↓reduceIte, reduceCtorEq, fA]
  rfl
theorem isEdges_spec (b t : Sp) : SpecF Try.prog 101 [.agg [.v (.int .i64 b.1), .v (.int .i64 b.2)], .agg [.v (.int .i64 t.1), .v (.int .i64 t.2)]] (.v (.bool (isEdges b t))) [] := by
  refine spec_go (N := 18) (rs := [.tmp 4]) (eq := eqs) rfl rfl fun_101 rfl (by kernel_rfl) (by kernel_rfl) (by simp) (by simp) (by simp) (by simp) fun R hR => ?_
  simp (maxSteps := 2000000) only [vcA, ↓vcP, ↓reduceIte, reduceCtorEq, Nat.reduceAdd, Nat.reduceMul, Nat.reduceSub, Nat.reduceLT, Nat.reduceLeDiff, Nat.reduceEqDiff, Nat.reduceBEq, Nat.reduceBNe, Nat.reduceGT, Nat.reduceDiv, Nat.reduceMod, Int.reduceAdd, Int.reduceSub, Int.reduceNeg, Int.reduceLT, Int.reduceLE, Int.reduceEq, Int.reduceToNat, fA]
  refine onF_data (isHeight_spec b) ?_ ?_
  · simp (maxSteps := 2000000) only [okA, ↓okP, Nat.reduceAdd, Nat.reduceMul, Nat.reduceSub, Nat.reduceLT, Nat.reduceLeDiff, Nat.reduceEqDiff, Nat.reduceBEq, ↓reduceIte, reduceCtorEq]
  simp (maxSteps := 2000000) only [vcA, ↓vcP, ↓reduceIte, reduceCtorEq, Nat.reduceAdd, Nat.reduceMul, Nat.reduceSub, Nat.reduceLT, Nat.reduceLeDiff, Nat.reduceEqDiff, Nat.reduceBEq, Nat.reduceBNe, Nat.reduceGT, Nat.reduceDiv, Nat.reduceMod, Int.reduceAdd, Int.reduceSub, Int.reduceNeg, Int.reduceLT, Int.reduceLE, Int.reduceEq, Int.reduceToNat, fA]
  refine ⟨fun h1 => ?_, fun h1 => hR _ (fin_of0 ?_)⟩
  · refine onF_data (isHeight_spec t) ?_ ?_
    · simp (maxSteps := 2000000) only [okA, ↓okP, Nat.reduceAdd, Nat.reduceMul, Nat.reduceSub, Nat.reduceLT, Nat.reduceLeDiff, Nat.reduceEqDiff, Nat.reduceBEq, ↓reduceIte, reduceCtorEq]
    simp (maxSteps := 2000000) only [vcA, ↓vcP, ↓reduceIte, reduceCtorEq, Nat.reduceAdd, Nat.reduceMul, Nat.reduceSub, Nat.reduceLT, Nat.reduceLeDiff, Nat.reduceEqDiff, Nat.reduceBEq, Nat.reduceBNe, Nat.reduceGT, Nat.reduceDiv, Nat.reduceMod, Int.reduceAdd, Int.reduceSub, Int.reduceNeg, Int.reduceLT, Int.reduceLE, Int.reduceEq, Int.reduceToNat, fA]
    refine ⟨fun h2 => hR _ (fin_of0 ?_), fun h2 => hR _ (fin_of0 ?_)⟩
    · simp (maxSteps := 2000000) only [enA, ↓enP, Nat.reduceAdd, Nat.reduceMul, Nat.reduceSub, Nat.reduceLT, Nat.reduceLeDiff, Nat.reduceEqDiff, Nat.reduceBEq, ↓reduceIte, reduceCtorEq, fA]
      simp [isEdges, h1, h2]
    · simp (maxSteps := 2000000) only [enA, ↓enP, Nat.reduceAdd, Nat.reduceMul, Nat.reduceSub, Nat.reduceLT, Nat.reduceLeDiff, Nat.reduceEqDiff, Nat.reduceBEq, ↓reduceIte, reduceCtorEq, fA]
      simp [isEdges, h1, h2]
  · simp (maxSteps := 2000000) only [enA, ↓enP, Nat.reduceAdd, Nat.reduceMul, Nat.reduceSub, Nat.reduceLT, Nat.reduceLeDiff, Nat.reduceEqDiff, Nat.reduceBEq, ↓reduceIte, reduceCtorEq, fA]
    simp [isEdges, h1]
theorem isCrack_spec (c : Crk) (n : Int) (hn : 0 ≤ n ∧ n ≤ 1000) : SpecF Try.prog 100 [.agg [.v (.int .i64 c.col.1), .v (.int .i64 c.col.2), .v (.int .i64 c.frm.1), .v (.int .i64 c.frm.2), .v (.int .i64 c.to.1), .v (.int .i64 c.to.2)], .v (.int .i64 n)] (.v (.bool (isCrack c n))) [] := by
  have e1 : IntKind.i64.wrap (n - 1) = n - 1 := wrap_id (by omega) (by omega)
  refine spec_go (N := 27) (rs := [.tmp 4]) (eq := eqs) rfl rfl fun_100 rfl (by kernel_rfl) (by kernel_rfl) (by simp) (by simp) (by simp) (by simp) fun R hR => ?_
  simp (maxSteps := 2000000) only [vcA, ↓vcP, ↓reduceIte, reduceCtorEq, Nat.reduceAdd, Nat.reduceMul, Nat.reduceSub, Nat.reduceLT, Nat.reduceLeDiff, Nat.reduceEqDiff, Nat.reduceBEq, Nat.reduceBNe, Nat.reduceGT, Nat.reduceDiv, Nat.reduceMod, Int.reduceAdd, Int.reduceSub, Int.reduceNeg, Int.reduceLT, Int.reduceLE, Int.reduceEq, Int.reduceToNat, fA, e1]
  refine onF_data (isSpan_spec c.col 0 (n - 1)) ?_ ?_
  · simp (maxSteps := 2000000) only [okA, ↓okP, Nat.reduceAdd, Nat.reduceMul, Nat.reduceSub, Nat.reduceLT, Nat.reduceLeDiff, Nat.reduceEqDiff, Nat.reduceBEq, ↓reduceIte, reduceCtorEq]
  simp (maxSteps := 2000000) only [vcA, ↓vcP, ↓reduceIte, reduceCtorEq, Nat.reduceAdd, Nat.reduceMul, Nat.reduceSub, Nat.reduceLT, Nat.reduceLeDiff, Nat.reduceEqDiff, Nat.reduceBEq, Nat.reduceBNe, Nat.reduceGT, Nat.reduceDiv, Nat.reduceMod, Int.reduceAdd, Int.reduceSub, Int.reduceNeg, Int.reduceLT, Int.reduceLE, Int.reduceEq, Int.reduceToNat, fA]
  refine ⟨fun h1 => ?_, fun h1 => hR _ (fin_of0 ?_)⟩
  · have h2 : betw 0 (n - 1) [c.col.1, c.col.2] = true := by
      unfold isSpan at h1
      simp at h1
      exact h1.1
    have h3 := betw2 h2
    have e2 : IntKind.i64.wrap (c.col.2 - c.col.1) = c.col.2 - c.col.1 := wrap_id (by omega) (by omega)
    rw [e2]
    refine ⟨fun h4 => ?_, fun h4 => hR _ (fin_of0 ?_)⟩
    · refine onF_data (isEdges_spec c.frm c.to) ?_ ?_
      · simp (maxSteps := 2000000) only [okA, ↓okP, Nat.reduceAdd, Nat.reduceMul, Nat.reduceSub, Nat.reduceLT, Nat.reduceLeDiff, Nat.reduceEqDiff, Nat.reduceBEq, ↓reduceIte, reduceCtorEq]
      simp (maxSteps := 2000000) only [vcA, ↓vcP, ↓reduceIte, reduceCtorEq, Nat.reduceAdd, Nat.reduceMul, Nat.reduceSub, Nat.reduceLT, Nat.reduceLeDiff, Nat.reduceEqDiff, Nat.reduceBEq, Nat.reduceBNe, Nat.reduceGT, Nat.reduceDiv, Nat.reduceMod, Int.reduceAdd, Int.reduceSub, Int.reduceNeg, Int.reduceLT, Int.reduceLE, Int.reduceEq, Int.reduceToNat, fA]
      refine hR _ (fin_of0 ?_)
      simp (maxSteps := 2000000) only [enA, ↓enP, Nat.reduceAdd, Nat.reduceMul, Nat.reduceSub, Nat.reduceLT, Nat.reduceLeDiff, Nat.reduceEqDiff, Nat.reduceBEq, ↓reduceIte, reduceCtorEq, fA]
      simp [isCrack, h1, h4]
    · simp (maxSteps := 2000000) only [enA, ↓enP, Nat.reduceAdd, Nat.reduceMul, Nat.reduceSub, Nat.reduceLT, Nat.reduceLeDiff, Nat.reduceEqDiff, Nat.reduceBEq, ↓reduceIte, reduceCtorEq, fA]
      simp [isCrack, h1]
      omega
  · simp (maxSteps := 2000000) only [enA, ↓enP, Nat.reduceAdd, Nat.reduceMul, Nat.reduceSub, Nat.reduceLT, Nat.reduceLeDiff, Nat.reduceEqDiff, Nat.reduceBEq, ↓reduceIte, reduceCtorEq, fA]
    simp [isCrack, h1]
theorem isCrackNot_spec (c : Crk) (n : Int) (hn : 0 ≤ n ∧ n ≤ 1000) : SpecG Try.prog 99 [.agg [.v (.int .i64 c.col.1), .v (.int .i64 c.col.2), .v (.int .i64 c.frm.1), .v (.int .i64 c.frm.2), .v (.int .i64 c.to.1), .v (.int .i64 c.to.2)], .ptr 0 0] [.box 3 [.v (.int .i64 n)]] (.v (.bool (!isCrack c n))) [.box 3 [.v (.int .i64 n)]] := by
  refine spec_go (N := 8) (rs := [.tmp 3]) (eq := eqs) rfl rfl fun_99 rfl (by kernel_rfl) (by kernel_rfl) (by simp) (by simp) (by simp) (by simp) fun R hR => ?_
  simp (maxSteps := 2000000) only [vcA, ↓vcP, ↓reduceIte, reduceCtorEq, Nat.reduceAdd, Nat.reduceMul, Nat.reduceSub, Nat.reduceLT, Nat.reduceLeDiff, Nat.reduceEqDiff, Nat.reduceBEq, Nat.reduceBNe, Nat.reduceGT, Nat.reduceDiv, Nat.reduceMod, Int.reduceAdd, Int.reduceSub, Int.reduceNeg, Int.reduceLT, Int.reduceLE, Int.reduceEq, Int.reduceToNat, fA]
  refine onF_data (isCrack_spec c n hn) ?_ ?_
  · simp (maxSteps := 2000000) only [okA, ↓okP, Nat.reduceAdd, Nat.reduceMul, Nat.reduceSub, Nat.reduceLT, Nat.reduceLeDiff, Nat.reduceEqDiff, Nat.reduceBEq, ↓reduceIte, reduceCtorEq]
  simp (maxSteps := 2000000) only [vcA, ↓vcP, ↓reduceIte, reduceCtorEq, Nat.reduceAdd, Nat.reduceMul, Nat.reduceSub, Nat.reduceLT, Nat.reduceLeDiff, Nat.reduceEqDiff, Nat.reduceBEq, Nat.reduceBNe, Nat.reduceGT, Nat.reduceDiv, Nat.reduceMod, Int.reduceAdd, Int.reduceSub, Int.reduceNeg, Int.reduceLT, Int.reduceLE, Int.reduceEq, Int.reduceToNat, fA]
  refine hR _ (fin_of1 [] ?_)
  simp (maxSteps := 2000000) only [enA, ↓enP, Nat.reduceAdd, Nat.reduceMul, Nat.reduceSub, Nat.reduceLT, Nat.reduceLeDiff, Nat.reduceEqDiff, Nat.reduceBEq, ↓reduceIte, reduceCtorEq, fA]
theorem crk_index {g : FuncId} {p : Crk → Bool} (V : Value) (l : List Crk) (hl : l.length < 1000000) (hg : ∀ i, i < l.length → SpecG Try.prog g [.agg [.v (.int .i64 (nth l i).col.1), .v (.int .i64 (nth l i).col.2), .v (.int .i64 (nth l i).frm.1), .v (.int .i64 (nth l i).frm.2), .v (.int .i64 (nth l i).to.1), .v (.int .i64 (nth l i).to.2)], .ptr 0 0] [.box 3 [.v V]] (.v (.bool (p (nth l i)))) [.box 3 [.v V]]) : SpecG Try.prog 107 [.sl 6 (l.map crR), .fn g [.ptr 0 0]] [.box 3 [.v V]] (.v (.int .i64 (idxI p l))) [.box 3 [.v V]] := by
  refine spec_go (N := 19) (rs := [.tmp 4]) (eq := eqs) rfl rfl fun_107 rfl (by kernel_rfl) (by kernel_rfl) (by simp) (by simp) (by simp) (by simp) fun R hR => ?_
  simp (maxSteps := 2000000) only [vcA, ↓vcP, ↓reduceIte, reduceCtorEq, Nat.reduceAdd, Nat.reduceMul, Nat.reduceSub, Nat.reduceLT, Nat.reduceLeDiff, Nat.reduceEqDiff, Nat.reduceBEq, Nat.reduceBNe, Nat.reduceGT, Nat.reduceDiv, Nat.reduceMod, Int.reduceAdd, Int.reduceSub, Int.reduceNeg, Int.reduceLT, Int.reduceLE, Int.reduceEq, Int.reduceToNat, fA]
  refine goC_loop (α := {i : Nat // i ≤ l.length ∧ ∀ j, j < i → p (nth l j) = false}) (fun x => ⟨[(0, .sl 6 (l.map crR)), (1, .fn g [.ptr 0 0]), (7, .v (.int .i64 l.length)), (8, .v (.int .i64 x.1))], [(0, .box 3 [.v V])]⟩) (fun x => l.length - x.1) ⟨0, by omega, by omega⟩ [] ?_ ?_
  · simp (maxSteps := 2000000) only [enA, ↓enP, Nat.reduceAdd, Nat.reduceMul, Nat.reduceSub, Nat.reduceLT, Nat.reduceLeDiff, Nat.reduceEqDiff, Nat.reduceBEq, ↓reduceIte, reduceCtorEq, fA]
    rfl
  intro x B hB
  obtain ⟨i, hi', hx⟩ := x
  simp (maxSteps := 2000000) only [vcA, ↓vcP, ↓reduceIte, reduceCtorEq, Nat.reduceAdd, Nat.reduceMul, Nat.reduceSub, Nat.reduceLT, Nat.reduceLeDiff, Nat.reduceEqDiff, Nat.reduceBEq, Nat.reduceBNe, Nat.reduceGT, Nat.reduceDiv, Nat.reduceMod, Int.reduceAdd, Int.reduceSub, Int.reduceNeg, Int.reduceLT, Int.reduceLE, Int.reduceEq, Int.reduceToNat, fA, crR]
  refine ⟨fun h1 => ⟨h1, fun _ => ⟨h1, fun _ => ?_⟩⟩, fun h1 => hR _ (fin_of1 [] ?_)⟩
  · refine onF_call (hg i h1) [] [] [0] ?_ ?_
    · simp (maxSteps := 2000000) only [okA, ↓okP, Nat.reduceAdd, Nat.reduceMul, Nat.reduceSub, Nat.reduceLT, Nat.reduceLeDiff, Nat.reduceEqDiff, Nat.reduceBEq, ↓reduceIte, reduceCtorEq]
    · simp (maxSteps := 2000000) only [vcA, ↓vcP, ↓reduceIte, reduceCtorEq, Nat.reduceAdd, Nat.reduceMul, Nat.reduceSub, Nat.reduceLT, Nat.reduceLeDiff, Nat.reduceEqDiff, Nat.reduceBEq, Nat.reduceBNe, Nat.reduceGT, Nat.reduceDiv, Nat.reduceMod, Int.reduceAdd, Int.reduceSub, Int.reduceNeg, Int.reduceLT, Int.reduceLE, Int.reduceEq, Int.reduceToNat, fA]
      refine ⟨fun h => hR _ (fin_of1 [] ?_), fun h => hB _ ⟨i + 1, by omega, ?_⟩ [] ?_ rfl ?_⟩
      · simp (maxSteps := 2000000) only [enA, ↓enP, Nat.reduceAdd, Nat.reduceMul, Nat.reduceSub, Nat.reduceLT, Nat.reduceLeDiff, Nat.reduceEqDiff, Nat.reduceBEq, ↓reduceIte, reduceCtorEq, fA]
        rw [idxI_some h1 h hx]
      · intro j hj
        by_cases e : j = i
        · subst e; exact h
        · exact hx j (by omega)
      · simp only; omega
      · simp (maxSteps := 2000000) only [enA, ↓enP, Nat.reduceAdd, Nat.reduceMul, Nat.reduceSub, Nat.reduceLT, Nat.reduceLeDiff, Nat.reduceEqDiff, Nat.reduceBEq, ↓reduceIte, reduceCtorEq, fA]
        rw [IntKind.wrap_i64]; simp; omega
  · simp (maxSteps := 2000000) only [enA, ↓enP, Nat.reduceAdd, Nat.reduceMul, Nat.reduceSub, Nat.reduceLT, Nat.reduceLeDiff, Nat.reduceEqDiff, Nat.reduceBEq, ↓reduceIte, reduceCtorEq, fA]
    rw [idxI_none fun j hj => hx j (by omega)]
theorem crk_contains {g : FuncId} {p : Crk → Bool} (V : Value) (l : List Crk) (hl : l.length < 1000000) (hg : ∀ i, i < l.length → SpecG Try.prog g [.agg [.v (.int .i64 (nth l i).col.1), .v (.int .i64 (nth l i).col.2), .v (.int .i64 (nth l i).frm.1), .v (.int .i64 (nth l i).frm.2), .v (.int .i64 (nth l i).to.1), .v (.int .i64 (nth l i).to.2)], .ptr 0 0] [.box 3 [.v V]] (.v (.bool (p (nth l i)))) [.box 3 [.v V]]) : SpecG Try.prog 98 [.sl 6 (l.map crR), .fn g [.ptr 0 0]] [.box 3 [.v V]] (.v (.bool (l.any p))) [.box 3 [.v V]] := by
  rw [← idx_any]
  refine spec_go (N := 9) (rs := [.tmp 4]) (eq := eqs) rfl rfl fun_98 rfl (by kernel_rfl) (by kernel_rfl) (by simp) (by simp) (by simp) (by simp) fun R hR => ?_
  simp (maxSteps := 2000000) only [vcA, ↓vcP, ↓reduceIte, reduceCtorEq, Nat.reduceAdd, Nat.reduceMul, Nat.reduceSub, Nat.reduceLT, Nat.reduceLeDiff, Nat.reduceEqDiff, Nat.reduceBEq, Nat.reduceBNe, Nat.reduceGT, Nat.reduceDiv, Nat.reduceMod, Int.reduceAdd, Int.reduceSub, Int.reduceNeg, Int.reduceLT, Int.reduceLE, Int.reduceEq, Int.reduceToNat, fA]
  refine onF_call (crk_index V l hl hg) [] [] [0] ?_ ?_
  · simp (maxSteps := 2000000) only [okA, ↓okP, Nat.reduceAdd, Nat.reduceMul, Nat.reduceSub, Nat.reduceLT, Nat.reduceLeDiff, Nat.reduceEqDiff, Nat.reduceBEq, ↓reduceIte, reduceCtorEq]
  · simp (maxSteps := 2000000) only [vcA, ↓vcP, ↓reduceIte, reduceCtorEq, Nat.reduceAdd, Nat.reduceMul, Nat.reduceSub, Nat.reduceLT, Nat.reduceLeDiff, Nat.reduceEqDiff, Nat.reduceBEq, Nat.reduceBNe, Nat.reduceGT, Nat.reduceDiv, Nat.reduceMod, Int.reduceAdd, Int.reduceSub, Int.reduceNeg, Int.reduceLT, Int.reduceLE, Int.reduceEq, Int.reduceToNat, fA]
    refine hR _ (fin_of1 [] ?_)
    simp (maxSteps := 2000000) only [enA, ↓enP, Nat.reduceAdd, Nat.reduceMul, Nat.reduceSub, Nat.reduceLT, Nat.reduceLeDiff, Nat.reduceEqDiff, Nat.reduceBEq, ↓reduceIte, reduceCtorEq, fA]

end Go.Proofs.Ytfaekiaegebmbaa.Ab
