/- Contracts of the blade's functions: what is valid. Contracts of the blade's functions: its form, and what its edges can be. Contracts of the blade's functions: a blade with what its edges can be. -/
import Derived.Test.YtciegkpjenjaeaaDoorZU1
namespace Go.Proofs.YtciegkpjenjaeaaDoor.Ab
open Go Go.RowKit
set_option linter.unusedVariables false
set_option linter.unusedSimpArgs false
set_option maxRecDepth 100000
theorem tooth_bad : BadG 50 := by
  intro n lo hi
  refine spec_go (N := 13) (rs := [.tmp 4]) (eq := eqs) rfl rfl fun_50 rfl (by kernel_rfl) (by kernel_rfl) (by simp) (by simp) (by simp) (by simp) fun R hR => ?_
  simp (maxSteps := 2000000) only [vcA, ↓vcP, ↓reduceIte, reduceCtorEq, Nat.reduceAdd, Nat.reduceMul, Nat.reduceSub, Nat.reduceLT, Nat.reduceLeDiff, Nat.reduceEqDiff, Nat.reduceBEq, Nat.reduceBNe, Nat.reduceGT, Nat.reduceDiv, Nat.reduceMod, Int.reduceAdd, Int.reduceSub, Int.reduceNeg, Int.reduceLT, Int.reduceLE, Int.reduceEq, Int.reduceToNat, fA]
  refine ⟨fun h => hR _ (fin_of1 [] ?_), fun h => hR _ (fin_of1 [] ?_)⟩
  · simp (maxSteps := 2000000) only [enA, ↓enP, Nat.reduceAdd, Nat.reduceMul, Nat.reduceSub, Nat.reduceLT, Nat.reduceLeDiff, Nat.reduceEqDiff, Nat.reduceBEq, ↓reduceIte, reduceCtorEq, fA]
    simp [bad]; omega
  · simp (maxSteps := 2000000) only [enA, ↓enP, Nat.reduceAdd, Nat.reduceMul, Nat.reduceSub, Nat.reduceLT, Nat.reduceLeDiff, Nat.reduceEqDiff, Nat.reduceBEq, ↓reduceIte, reduceCtorEq, fA]
    simp [bad]; omega
theorem tooth_within (lo hi : Int) (l : List Int) (hl : l.length < 1000000) : SpecF Tryd.prog 22 [.v (.int .i64 lo), .v (.int .i64 hi), .sl 1 (l.map iR)] (.v (.bool (betw lo hi l))) [] := by
  rw [← betw_idx]
  refine spec_go (N := 11) (rs := [.tmp 6]) (eq := eqs) rfl rfl fun_22 rfl (by kernel_rfl) (by kernel_rfl) (by simp) (by simp) (by simp) (by simp) fun R hR => ?_
  simp (maxSteps := 2000000) only [vcA, ↓vcP, ↓reduceIte, reduceCtorEq, Nat.reduceAdd, Nat.reduceMul, Nat.reduceSub, Nat.reduceLT, Nat.reduceLeDiff, Nat.reduceEqDiff, Nat.reduceBEq, Nat.reduceBNe, Nat.reduceGT, Nat.reduceDiv, Nat.reduceMod, Int.reduceAdd, Int.reduceSub, Int.reduceNeg, Int.reduceLT, Int.reduceLE, Int.reduceEq, Int.reduceToNat, fA]
  refine onF_call (contains_spec tooth_bad lo hi l hl) [] [] [8, 16] ?_ ?_
  · simp (maxSteps := 2000000) only [okA, ↓okP, Nat.reduceAdd, Nat.reduceMul, Nat.reduceSub, Nat.reduceLT, Nat.reduceLeDiff, Nat.reduceEqDiff, Nat.reduceBEq, ↓reduceIte, reduceCtorEq]
  · simp (maxSteps := 2000000) only [vcA, ↓vcP, ↓reduceIte, reduceCtorEq, Nat.reduceAdd, Nat.reduceMul, Nat.reduceSub, Nat.reduceLT, Nat.reduceLeDiff, Nat.reduceEqDiff, Nat.reduceBEq, Nat.reduceBNe, Nat.reduceGT, Nat.reduceDiv, Nat.reduceMod, Int.reduceAdd, Int.reduceSub, Int.reduceNeg, Int.reduceLT, Int.reduceLE, Int.reduceEq, Int.reduceToNat, fA]
    refine hR _ (fin_of0 ?_)
    simp (maxSteps := 2000000) only [enA, ↓enP, Nat.reduceAdd, Nat.reduceMul, Nat.reduceSub, Nat.reduceLT, Nat.reduceLeDiff, Nat.reduceEqDiff, Nat.reduceBEq, ↓reduceIte, reduceCtorEq, fA]

abbrev Sp := Int × Int
def spR (s : Sp) : List DV := [.v (.int .i64 s.1), .v (.int .i64 s.2)]
structure Crk where
  col : Sp
  frm : Sp
  to : Sp
instance : Inhabited Crk := ⟨⟨default, default, default⟩⟩
def crR (c : Crk) : List DV := [.v (.int .i64 c.col.1), .v (.int .i64 c.col.2), .v (.int .i64 c.frm.1), .v (.int .i64 c.frm.2), .v (.int .i64 c.to.1), .v (.int .i64 c.to.2)]
def isSpan (s : Sp) (a b : Int) : Bool := betw a b [s.1, s.2] && decide (s.1 ≤ s.2)
def isHeight (s : Sp) : Bool := isSpan s 0 300
def isEdges (b t : Sp) : Bool := isHeight b && isHeight t && decide (b.2 ≤ t.1)
def isCrack (c : Crk) (n : Int) : Bool := isSpan c.col 0 (n - 1) && decide (c.col.2 - c.col.1 < 5) && isEdges c.frm c.to
theorem isSpan_spec (s : Sp) (a b : Int) : SpecF Tryd.prog 80 [.agg [.v (.int .i64 s.1), .v (.int .i64 s.2)], .v (.int .i64 a), .v (.int .i64 b)] (.v (.bool (isSpan s a b))) [] := by
  refine spec_go (N := 22) (rs := [.tmp 6]) (eq := eqs) rfl rfl fun_80 rfl (by kernel_rfl) (by kernel_rfl) (by simp) (by simp) (by simp) (by simp) fun R hR => ?_
  simp (maxSteps := 2000000) only [vcA, ↓vcP, ↓reduceIte, reduceCtorEq, Nat.reduceAdd, Nat.reduceMul, Nat.reduceSub, Nat.reduceLT, Nat.reduceLeDiff, Nat.reduceEqDiff, Nat.reduceBEq, Nat.reduceBNe, Nat.reduceGT, Nat.reduceDiv, Nat.reduceMod, Int.reduceAdd, Int.reduceSub, Int.reduceNeg, Int.reduceLT, Int.reduceLE, Int.reduceEq, Int.reduceToNat, fA]
  refine onF_call3 (tooth_within a b [s.1, s.2] (by simp)) ?_ ?_
  · simp (maxSteps := 2000000) only [okA, ↓okP, Nat.reduceAdd, Nat.reduceMul, Nat.reduceSub, Nat.reduceLT, Nat.reduceLeDiff, Nat.reduceEqDiff, Nat.reduceBEq, ↓reduceIte, reduceCtorEq]
    rfl
  simp (maxSteps := 2000000) only [vcA, ↓vcP, ↓reduceIte, reduceCtorEq, Nat.reduceAdd, Nat.reduceMul, Nat.reduceSub, Nat.reduceLT, Nat.reduceLeDiff, Nat.reduceEqDiff, Nat.reduceBEq, Nat.reduceBNe, Nat.reduceGT, Nat.reduceDiv, Nat.reduceMod, Int.reduceAdd, Int.reduceSub, Int.reduceNeg, Int.reduceLT, Int.reduceLE, Int.reduceEq, Int.reduceToNat, fA]
  refine ⟨fun h => hR _ (fin_of0 ?_), fun h => hR _ (fin_of0 ?_)⟩
  · simp (maxSteps := 2000000) only [enA, ↓enP, Nat.reduceAdd, Nat.reduceMul, Nat.reduceSub, Nat.reduceLT, Nat.reduceLeDiff, Nat.reduceEqDiff, Nat.reduceBEq, ↓reduceIte, reduceCtorEq, fA]
    simp [isSpan, h]
  · simp (maxSteps := 2000000) only [enA, ↓enP, Nat.reduceAdd, Nat.reduceMul, Nat.reduceSub, Nat.reduceLT, Nat.reduceLeDiff, Nat.reduceEqDiff, Nat.reduceBEq, ↓reduceIte, reduceCtorEq, fA]
    simp [isSpan, h]
theorem isHeight_spec (s : Sp) : SpecF Tryd.prog 81 [.agg [.v (.int .i64 s.1), .v (.int .i64 s.2)]] (.v (.bool (isHeight s))) [] := by
  refine spec_go (N := 5) (rs := [.tmp 2]) (eq := eqs) rfl rfl fun_81 rfl (by kernel_rfl) (by kernel_rfl) (by simp) (by simp) (by simp) (by simp) fun R hR => ?_
  simp (maxSteps := 2000000) only [vcA, ↓vcP, ↓reduceIte, reduceCtorEq, Nat.reduceAdd, Nat.reduceMul, Nat.reduceSub, Nat.reduceLT, Nat.reduceLeDiff, Nat.reduceEqDiff, Nat.reduceBEq, Nat.reduceBNe, Nat.reduceGT, Nat.reduceDiv, Nat.reduceMod, Int.reduceAdd, Int.reduceSub, Int.reduceNeg, Int.reduceLT, Int.reduceLE, Int.reduceEq, Int.reduceToNat, fA]
  refine onF_data (isSpan_spec s 0 300) ?_ ?_
  · simp (maxSteps := 2000000) only [okA, ↓okP, Nat.reduceAdd, Nat.reduceMul, Nat.reduceSub, Nat.reduceLT, Nat.reduceLeDiff, Nat.reduceEqDiff, Nat.reduceBEq, ↓reduceIte, reduceCtorEq]
  simp (maxSteps := 2000000) only [vcA, ↓vcP, ↓reduceIte, reduceCtorEq, Nat.reduceAdd, Nat.reduceMul, Nat.reduceSub, Nat.reduceLT, Nat.reduceLeDiff, Nat.reduceEqDiff, Nat.reduceBEq, Nat.reduceBNe, Nat.reduceGT, Nat.reduceDiv, Nat.reduceMod, Int.reduceAdd, Int.reduceSub, Int.reduceNeg, Int.reduceLT, Int.reduceLE, Int.reduceEq, Int.reduceToNat, fA]
  refine hR _ (fin_of0 ?_)
  simp (maxSteps := 2000000) only [enA, ↓enP, Nat.reduceAdd, Nat.reduceMul, Nat.reduceSub, Nat.reduceLT, Nat.reduceLeDiff, Nat.reduceEqDiff, Nat.reduceBEq, ↓reduceIte, reduceCtorEq, fA]
  rfl
theorem isEdges_spec (b t : Sp) : SpecF Tryd.prog 70 [.agg [.v (.int .i64 b.1), .v (.int .i64 b.2)], .agg [.v (.int .i64 t.1), .v (.int .i64 t.2)]] (.v (.bool (isEdges b t))) [] := by
  refine spec_go (N := 18) (rs := [.tmp 4]) (eq := eqs) rfl rfl fun_70 rfl (by kernel_rfl) (by kernel_rfl) (by simp) (by simp) (by simp) (by simp) fun R hR => ?_
  simp (maxSteps := 2000000) only [vcA, ↓vcP, ↓reduceIte, reduceCtorEq, Nat.reduceAdd, Nat.reduceMul, Nat.reduceSub, Nat.reduceLT, Nat.reduceLeDiff, Nat.reduceEqDiff, Nat.reduceBEq, Nat.reduceBNe, Nat.reduceGT, Nat.reduceDiv, Nat.reduceMod, Int.reduceAdd, Int.reduceSub, Int.reduceNeg, Int.reduceLT, Int.reduceLE, Int.reduceEq, Int.reduceToNat, fA]
  refine onF_data (isHeight_spec b) ?_ ?_
  · simp (maxSteps := 2000000) only [okA, ↓okP, Nat.reduceAdd, Nat.reduceMul, Nat.reduceSub, Nat.reduceLT, Nat.reduceLeDiff, Nat.reduceEqDiff, Nat.reduceBEq, ↓reduceIte, reduceCtorEq]
  simp (maxSteps := 2000000) only [vcA, ↓vcP, ↓reduceIte, reduceCtorEq, Nat.reduceAdd, Nat.reduceMul, Nat.reduceSub, Nat.reduceLT, Nat.reduceLeDiff, Nat.reduceEqDiff, Nat.reduceBEq, Nat.reduceBNe, Nat.reduceGT, Nat.reduceDiv, Nat.reduceMod, Int.reduceAdd, Int.reduceSub, Int.reduceNeg, Int.reduceLT, Int.reduceLE, Int.reduceEq, Int.reduceToNat, fA]
  refine ⟨fun h1 => ?_, fun h1 => hR _ (fin_of0 ?_)⟩
  · refine onF_data (isHeight_spec t) ?_ ?_
    · simp (maxSteps := 2000000) only [okA, ↓okP, Nat.reduceAdd, Nat.reduceMul, Nat.reduceSub, Nat.reduceLT, Nat.reduceLeDiff, Nat.reduceEqDiff, Nat.reduceBEq, ↓reduceIte, reduceCtorEq]
    simp (maxSteps := 2000000) only [vcA, ↓vcP, ↓reduceIte, reduceCtorEq, Nat.reduceAdd, Nat.reduceMul, Nat.reduceSub, Nat.reduceLT, Nat.reduceLeDiff, Nat.reduceEqDiff, Nat.reduceBEq, Nat.reduceBNe, Nat.reduceGT, Nat.reduceDiv, Nat.reduceMod, Int.reduceAdd, Int.reduceSub, Int.reduceNeg, Int.reduceLT, Int.reduceLE, Int.reduceEq, Int.reduceToNat, fA]
    refine ⟨fun h2 => hR _ (fin_of0 ?_), fun h2 => hR _ (fin_of0 ?_)⟩
    · simp (maxSteps := 2000000) only [enA, ↓enP, Nat.reduceAdd, Nat.reduceMul, Nat.reduceSub, Nat.reduceLT, Nat.reduceLeDiff, Nat.reduceEqDiff, Nat.reduceBEq, ↓reduceIte, reduceCtorEq, fA]
      simp [isEdges, h1, h2]
    · simp (maxSteps := 2000000) only [enA, ↓enP, Nat.reduceAdd, Nat.reduceMul, Nat.reduceSub, Nat.reduceLT, Nat.reduceLeDiff, Nat.reduceEqDiff, Nat.reduceBEq, ↓reduceIte, reduceCtorEq, fA]
      simp [isEdges, h1, h2]
  · simp (maxSteps := 2000000) only [enA, ↓enP, Nat.reduceAdd, Nat.reduceMul, Nat.reduceSub, Nat.reduceLT, Nat.reduceLeDiff, Nat.reduceEqDiff, Nat.reduceBEq, ↓reduceIte, reduceCtorEq, fA]
    simp [isEdges, h1]
theorem isCrack_spec (c : Crk) (n : Int) (hn : 0 ≤ n ∧ n ≤ 1000) : SpecF Tryd.prog 69 [.agg [.v (.int .i64 c.col.1), .v (.int .i64 c.col.2), .v (.int .i64 c.frm.1), .v (.int .i64 c.frm.2), .v (.int .i64 c.to.1), .v (.int .i64 c.to.2)], .v (.int .i64 n)] (.v (.bool (isCrack c n))) [] := by
  have e1 : IntKind.i64.wrap (n - 1) = n - 1 := wrap_id (by omega) (by omega)
  refine spec_go (N := 27) (rs := [.tmp 4]) (eq := eqs) rfl rfl fun_69 rfl (by kernel_rfl) (by kernel_rfl) (by simp) (by simp) (by simp) (by simp) fun R hR => ?_
  simp (maxSteps := 2000000) only [vcA, ↓vcP, ↓reduceIte, reduceCtorEq, Nat.reduceAdd, Nat.reduceMul, Nat.reduceSub, Nat.reduceLT, Nat.reduceLeDiff, Nat.reduceEqDiff, Nat.reduceBEq, Nat.reduceBNe, Nat.reduceGT, Nat.reduceDiv, Nat.reduceMod, Int.reduceAdd, Int.reduceSub, Int.reduceNeg, Int.reduceLT, Int.reduceLE, Int.reduceEq, Int.reduceToNat, fA, e1]
  refine onF_data (isSpan_spec c.col 0 (n - 1)) ?_ ?_
  · simp (maxSteps := 2000000) only [okA, ↓okP, Nat.reduceAdd, Nat.reduceMul, Nat.reduceSub, Nat.reduceLT, Nat.reduceLeDiff, Nat.reduceEqDiff, Nat.reduceBEq, ↓reduceIte, reduceCtorEq]
  simp (maxSteps := 2000000) only [vcA, ↓vcP, ↓reduceIte, reduceCtorEq, Nat.reduceAdd, Nat.reduceMul, Nat.reduceSub, Nat.reduceLT, Nat.reduceLeDiff, Nat.reduceEqDiff, Nat.reduceBEq, Nat.reduceBNe, Nat.reduceGT, Nat.reduceDiv, Nat.reduceMod, Int.reduceAdd, Int.reduceSub, Int.reduceNeg, Int.reduceLT, Int.reduceLE, Int.reduceEq, Int.reduceToNat, fA]
  refine ⟨fun h1 => ?_, fun h1 => hR _ (fin_of0 ?_)⟩
  · have h2 : betw 0 (n - 1) [c.col.1, c.col.2] = true := by
      unfold isSpan at h1
      simp at h1
      exact h1.1
    have h3 := betw2 h2
    have e2 : IntKind.i64.wrap (c.col.2 - c.col.1) = c.col.2 - c.col.1 := wrap_id (by omega) (by omega)
    rw [e2]
    refine ⟨fun h4 => ?_, fun h4 => hR _ (fin_of0 ?_)⟩
    · refine onF_data (isEdges_spec c.frm c.to) ?_ ?_
      · simp (maxSteps := 2000000) only [okA, ↓okP, Nat.reduceAdd, Nat.reduceMul, Nat.reduceSub, Nat.reduceLT, Nat.reduceLeDiff, Nat.reduceEqDiff, Nat.reduceBEq, ↓reduceIte, reduceCtorEq]
      simp (maxSteps := 2000000) only [vcA, ↓vcP, ↓reduceIte, reduceCtorEq, Nat.reduceAdd, Nat.reduceMul, Nat.reduceSub, Nat.reduceLT, Nat.reduceLeDiff, Nat.reduceEqDiff, Nat.reduceBEq, Nat.reduceBNe, Nat.reduceGT, Nat.reduceDiv, Nat.reduceMod, Int.reduceAdd, Int.reduceSub, Int.reduceNeg, Int.reduceLT, Int.reduceLE, Int.reduceEq, Int.reduceToNat, fA]
      refine hR _ (fin_of0 ?_)
      simp (maxSteps := 2000000) only [enA, ↓enP, Nat.reduceAdd, Nat.reduceMul, Nat.reduceSub, Nat.reduceLT, Nat.reduceLeDiff, Nat.reduceEqDiff, Nat.reduceBEq, ↓reduceIte, reduceCtorEq, fA]
      simp [isCrack, h1, h4]
    · simp (maxSteps := 2000000) only [enA, ↓enP, Nat.reduceAdd, Nat.reduceMul, Nat.reduceSub, Nat.reduceLT, Nat.reduceLeDiff, Nat.reduceEqDiff, Nat.reduceBEq, ↓reduceIte, reduceCtorEq, fA]
      simp [isCrack, h1]
      omega
  · simp (maxSteps := 2000000) only [enA, ↓enP, Nat.reduceAdd, Nat.reduceMul, Nat.reduceSub, Nat.reduceLT, Nat.reduceLeDiff, Nat.reduceEqDiff, Nat.reduceBEq, ↓reduceIte, reduceCtorEq, fA]
    simp [isCrack, h1]
theorem isCrackNot_spec (c : Crk) (n : Int) (hn : 0 ≤ n ∧ n ≤ 1000) : SpecG Tryd.prog 68 [.agg [.v (.int .i64 c.col.1), .v (.int .i64 c.col.2), .v (.int .i64 c.frm.1), .v (.int .i64 c.frm.2), .v (.int .i64 c.to.1), .v (.int .i64 c.to.2)], .ptr 0 0] [.box 3 [.v (.int .i64 n)]] (.v (.bool (!isCrack c n))) [.box 3 [.v (.int .i64 n)]] := by
  refine spec_go (N := 8) (rs := [.tmp 3]) (eq := eqs) rfl rfl fun_68 rfl (by kernel_rfl) (by kernel_rfl) (by simp) (by simp) (by simp) (by simp) fun R hR => ?_
  simp (maxSteps := 2000000) only [vcA, ↓vcP, ↓reduceIte, reduceCtorEq, Nat.reduceAdd, Nat.reduceMul, Nat.reduceSub, Nat.reduceLT, Nat.reduceLeDiff, Nat.reduceEqDiff, Nat.reduceBEq, Nat.reduceBNe, Nat.reduceGT, Nat.reduceDiv, Nat.reduceMod, Int.reduceAdd, Int.reduceSub, Int.reduceNeg, Int.reduceLT, Int.reduceLE, Int.reduceEq, Int.reduceToNat, fA]
  refine onF_data (isCrack_spec c n hn) ?_ ?_
  · simp (maxSteps := 2000000) only [okA, ↓okP, Nat.reduceAdd, Nat.reduceMul, Nat.reduceSub, Nat.reduceLT, Nat.reduceLeDiff, Nat.reduceEqDiff, Nat.reduceBEq, ↓reduceIte, reduceCtorEq]
  simp (maxSteps := 2000000) only [vcA, ↓vcP, ↓reduceIte, reduceCtorEq, Nat.reduceAdd, Nat.reduceMul, Nat.reduceSub, Nat.reduceLT, Nat.reduceLeDiff, Nat.reduceEqDiff, Nat.reduceBEq, Nat.reduceBNe, Nat.reduceGT, Nat.reduceDiv, Nat.reduceMod, Int.reduceAdd, Int.reduceSub, Int.reduceNeg, Int.reduceLT, Int.reduceLE, Int.reduceEq, Int.reduceToNat, fA]
  refine hR _ (fin_of1 [] ?_)
  simp (maxSteps := 2000000) only [enA, ↓enP, Nat.reduceAdd, Nat.reduceMul, Nat.reduceSub, Nat.reduceLT, Nat.reduceLeDiff, Nat.reduceEqDiff, Nat.reduceBEq, ↓reduceIte, reduceCtorEq, fA]
theorem crk_index {g : FuncId} {p : Crk → Bool} (V : Value) (l : List Crk) (hl : l.length < 1000000) (hg : ∀ i, i < l.length → SpecG Tryd.prog g [.agg [.v (.int .i64 (nth l i).col.1), .v (.int .i64 (nth l i).col.2), .v (.int .i64 (nth l i).frm.1), .v (.int .i64 (nth l i).frm.2), .v (.int .i64 (nth l i).to.1), .v (.int .i64 (nth l i).to.2)], .ptr 0 0] [.box 3 [.v V]] (.v (.bool (p (nth l i)))) [.box 3 [.v V]]) : SpecG Tryd.prog 79 [.sl 6 (l.map crR), .fn g [.ptr 0 0]] [.box 3 [.v V]] (.v (.int .i64 (idxI p l))) [.box 3 [.v V]] := by
  refine spec_go (N := 19) (rs := [.tmp 4]) (eq := eqs) rfl rfl fun_79 rfl (by kernel_rfl) (by kernel_rfl) (by simp) (by simp) (by simp) (by simp) fun R hR => ?_
  simp (maxSteps := 2000000) only [vcA, ↓vcP, ↓reduceIte, reduceCtorEq, Nat.reduceAdd, Nat.reduceMul, Nat.reduceSub, Nat.reduceLT, Nat.reduceLeDiff, Nat.reduceEqDiff, Nat.reduceBEq, Nat.reduceBNe, Nat.reduceGT, Nat.reduceDiv, Nat.reduceMod, Int.reduceAdd, Int.reduceSub, Int.reduceNeg, Int.reduceLT, Int.reduceLE, Int.reduceEq, Int.reduceToNat, fA]
  refine goC_loop (α := {i : Nat // i ≤ l.length ∧ ∀ j, j < i → p (nth l j) = false}) (fun x => ⟨[(0, .sl 6 (l.map crR)), (1, .fn g [.ptr 0 0]), (7, .v (.int .i64 l.length)), (8, .v (.int .i64 x.1))], [(0, .box 3 [.v V])]⟩) (fun x => l.length - x.1) ⟨0, by omega, by omega⟩ [] ?_ ?_
  · simp (maxSteps := 2000000) only [enA, ↓enP, Nat.reduceAdd, Nat.reduceMul, Nat.reduceSub, Nat.reduceLT, Nat.reduceLeDiff, Nat.reduceEqDiff, Nat.reduceBEq, ↓reduceIte, reduceCtorEq, fA]
    rfl
  intro x B hB
  obtain ⟨i, hi', hx⟩ := x
  simp (maxSteps := 2000000) only [vcA, ↓vcP, ↓reduceIte, reduceCtorEq, Nat.reduceAdd, Nat.reduceMul, Nat.reduceSub, Nat.reduceLT, Nat.reduceLeDiff, Nat.reduceEqDiff, Nat.reduceBEq, Nat.reduceBNe, Nat.reduceGT, Nat.reduceDiv, Nat.reduceMod, Int.reduceAdd, Int.reduceSub, Int.reduceNeg, Int.reduceLT, Int.reduceLE, Int.reduceEq, Int.reduceToNat, fA, crR]
  refine ⟨fun h1 => ⟨h1, fun _ => ⟨h1, fun _ => ?_⟩⟩, fun h1 => hR _ (fin_of1 [] ?_)⟩
  · refine onF_call (hg i h1) [] [] [0] ?_ ?_
    · simp (maxSteps := 2000000) only [okA, ↓okP, Nat.reduceAdd, Nat.reduceMul, Nat.reduceSub, Nat.reduceLT, Nat.reduceLeDiff, Nat.reduceEqDiff, Nat.reduceBEq, ↓reduceIte, reduceCtorEq]
    · simp (maxSteps := 2000000) only [vcA, ↓vcP, ↓reduceIte, reduceCtorEq, Nat.reduceAdd, Nat.reduceMul, Nat.reduceSub, Nat.reduceLT, Nat.reduceLeDiff, Nat.reduceEqDiff, Nat.reduceBEq, Nat.reduceBNe, Nat.reduceGT, Nat.reduceDiv, Nat.reduceMod, Int.reduceAdd, Int.reduceSub, Int.reduceNeg, Int.reduceLT, Int.reduceLE, Int.reduceEq, Int.reduceToNat, fA]
      refine ⟨fun h => hR _ (fin_of1 [] ?_), fun h => hB _ ⟨i + 1, by omega, ?_⟩ [] ?_ rfl ?_⟩
      · simp (maxSteps := 2000000) only [enA, ↓enP, Nat.reduceAdd, Nat.reduceMul, Nat.reduceSub, Nat.reduceLT, Nat.reduceLeDiff, Nat.reduceEqDiff, Nat.reduceBEq, ↓reduceIte, reduceCtorEq, fA]
        rw [idxI_some h1 h hx]
      · intro j hj
        by_cases e : j = i
        · subst e; exact h
        · exact hx j (by omega)
      · simp only; omega
      · simp (maxSteps := 2000000) only [enA, ↓enP, Nat.reduceAdd, Nat.reduceMul, Nat.reduceSub, Nat.reduceLT, Nat.reduceLeDiff, Nat.reduceEqDiff, Nat.reduceBEq, ↓reduceIte, reduceCtorEq, fA]
        rw [IntKind.wrap_i64]; simp; omega
  · simp (maxSteps := 2000000) only [enA, ↓enP, Nat.reduceAdd, Nat.reduceMul, Nat.reduceSub, Nat.reduceLT, Nat.reduceLeDiff, Nat.reduceEqDiff, Nat.reduceBEq, ↓reduceIte, reduceCtorEq, fA]
    rw [idxI_none fun j hj => hx j (by omega)]
theorem crk_contains {g : FuncId} {p : Crk → Bool} (V : Value) (l : List Crk) (hl : l.length < 1000000) (hg : ∀ i, i < l.length → SpecG Tryd.prog g [.agg [.v (.int .i64 (nth l i).col.1), .v (.int .i64 (nth l i).col.2), .v (.int .i64 (nth l i).frm.1), .v (.int .i64 (nth l i).frm.2), .v (.int .i64 (nth l i).to.1), .v (.int .i64 (nth l i).to.2)], .ptr 0 0] [.box 3 [.v V]] (.v (.bool (p (nth l i)))) [.box 3 [.v V]]) : SpecG Tryd.prog 67 [.sl 6 (l.map crR), .fn g [.ptr 0 0]] [.box 3 [.v V]] (.v (.bool (l.any p))) [.box 3 [.v V]] := by
  rw [← idx_any]
  refine spec_go (N := 9) (rs := [.tmp 4]) (eq := eqs) rfl rfl fun_67 rfl (by kernel_rfl) (by kernel_rfl) (by simp) (by simp) (by simp) (by simp) fun R hR => ?_
  simp (maxSteps := 2000000) only [vcA, ↓vcP, ↓reduceIte, reduceCtorEq, Nat.reduceAdd, Nat.reduceMul, Nat.reduceSub, Nat.reduceLT, Nat.reduceLeDiff, Nat.reduceEqDiff, Nat.reduceBEq, Nat.reduceBNe, Nat.reduceGT, Nat.reduceDiv, Nat.reduceMod, Int.reduceAdd, Int.reduceSub, Int.reduceNeg, Int.reduceLT, Int.reduceLE, Int.reduceEq, Int.reduceToNat, fA]
  refine onF_call (crk_index V l hl hg) [] [] [0] ?_ ?_
  · simp (maxSteps := 2000000) only [okA, ↓okP, Nat.reduceAdd, Nat.reduceMul, Nat.reduceSub, Nat.reduceLT, Nat.reduceLeDiff, Nat.reduceEqDiff, Nat.reduceBEq, ↓reduceIte, reduceCtorEq]
  · simp (maxSteps := 2000000) only [vcA, ↓vcP, ↓reduceIte, reduceCtorEq, Nat.reduceAdd, Nat.reduceMul, Nat.reduceSub, Nat.reduceLT, Nat.reduceLeDiff, Nat.reduceEqDiff, Nat.reduceBEq, Nat.reduceBNe, Nat.reduceGT, Nat.reduceDiv, Nat.reduceMod, Int.reduceAdd, Int.reduceSub, Int.reduceNeg, Int.reduceLT, Int.reduceLE, Int.reduceEq, Int.reduceToNat, fA]
    refine hR _ (fin_of1 [] ?_)
    simp (maxSteps := 2000000) only [enA, ↓enP, Nat.reduceAdd, Nat.reduceMul, Nat.reduceSub, Nat.reduceLT, Nat.reduceLeDiff, Nat.reduceEqDiff, Nat.reduceBEq, ↓reduceIte, reduceCtorEq, fA]

end Go.Proofs.YtciegkpjenjaeaaDoor.Ab
namespace Go.Proofs.YtciegkpjenjaeaaDoor.Ab
open Go Go.RowKit
set_option linter.unusedVariables false
set_option linter.unusedSimpArgs false
set_option maxRecDepth 100000
def meetS (a b : Sp) : Sp := (max a.1 b.1, min a.2 b.2)
theorem meet_spec (a b : Sp) : SpecF Tryd.prog 72 [.agg [.v (.int .i64 a.1), .v (.int .i64 a.2)], .agg [.v (.int .i64 b.1), .v (.int .i64 b.2)]] (.agg [.v (.int .i64 (meetS a b).1), .v (.int .i64 (meetS a b).2)]) [] := by
  refine spec_go (N := 16) (rs := [.cell 4 50]) (eq := eqs) rfl rfl fun_72 rfl (by kernel_rfl) (by kernel_rfl) (by simp) (by simp) (by simp) (by simp) fun R hR => ?_
  simp (maxSteps := 2000000) only [vcA, ↓vcP, ↓reduceIte, reduceCtorEq, Nat.reduceAdd, Nat.reduceMul, Nat.reduceSub, Nat.reduceLT, Nat.reduceLeDiff, Nat.reduceEqDiff, Nat.reduceBEq, Nat.reduceBNe, Nat.reduceGT, Nat.reduceDiv, Nat.reduceMod, Int.reduceAdd, Int.reduceSub, Int.reduceNeg, Int.reduceLT, Int.reduceLE, Int.reduceEq, Int.reduceToNat, fA]
  refine hR _ (fin_of0 ?_)
  simp (maxSteps := 2000000) only [enA, ↓enP, Nat.reduceAdd, Nat.reduceMul, Nat.reduceSub, Nat.reduceLT, Nat.reduceLeDiff, Nat.reduceEqDiff, Nat.reduceBEq, ↓reduceIte, reduceCtorEq, fA]
  exact ⟨rfl, rfl⟩
theorem clone_spec (l : List Sp) (hl : l.length < 1000000) : SpecF Tryd.prog 71 [.sl 2 (l.map spR)] (.ob 0 l.length) [.row 50 2 (l.map spR) false] := by
  refine spec_go (N := 8) (rs := [.tmp 2]) (eq := eqs) rfl rfl fun_71 rfl (by kernel_rfl) (by kernel_rfl) (by simp) (by simp) (by simp) (by simp) fun R hR => ?_
  simp (maxSteps := 2000000) only [vcA, ↓vcP, ↓reduceIte, reduceCtorEq, Nat.reduceAdd, Nat.reduceMul, Nat.reduceSub, Nat.reduceLT, Nat.reduceLeDiff, Nat.reduceEqDiff, Nat.reduceBEq, Nat.reduceBNe, Nat.reduceGT, Nat.reduceDiv, Nat.reduceMod, Int.reduceAdd, Int.reduceSub, Int.reduceNeg, Int.reduceLT, Int.reduceLE, Int.reduceEq, Int.reduceToNat, fA]
  refine ⟨fun h => hR _ (fin_of1 [none] ?_), ⟨⟨by omega, by simp only [maxLen]; omega⟩, fun _ => hR _ (fin_of1 [some 48] ?_)⟩⟩
  · have h : l = [] := by simpa using h
    subst h
    simp (maxSteps := 2000000) only [enA, ↓enP, Nat.reduceAdd, Nat.reduceMul, Nat.reduceSub, Nat.reduceLT, Nat.reduceLeDiff, Nat.reduceEqDiff, Nat.reduceBEq, ↓reduceIte, reduceCtorEq, fA]
  · simp (maxSteps := 2000000) only [enA, ↓enP, Nat.reduceAdd, Nat.reduceMul, Nat.reduceSub, Nat.reduceLT, Nat.reduceLeDiff, Nat.reduceEqDiff, Nat.reduceBEq, ↓reduceIte, reduceCtorEq, fA]
/-- Reversed at both ends, so far. -/
def revTo (l : List Sp) (i : Nat) : List Sp := (List.range l.length).map fun k => if k < i ∨ l.length - i ≤ k then nth l (l.length - 1 - k) else nth l k
theorem nth_range {α : Type} [Inhabited α] {n : Nat} {f : Nat → α} {k : Nat} (h : k < n) : nth ((List.range n).map f) k = f k := by simp [nth, List.getD_eq_getElem?_getD, h]
theorem revTo_length (l : List Sp) (i : Nat) : (revTo l i).length = l.length := by simp [revTo]
theorem list_ext {α : Type} [Inhabited α] {a b : List α} (hl : a.length = b.length) (h : ∀ k, k < a.length → nth a k = nth b k) : a = b := by
  apply List.ext_getElem?
  intro k
  by_cases hk : k < a.length
  · rw [nth_eq hk, nth_eq (by omega), h k hk]
  · rw [List.getElem?_eq_none (by omega), List.getElem?_eq_none (by omega)]
theorem nth_set {α : Type} [Inhabited α] (l : List α) (i : Nat) (v : α) (k : Nat) (h : k < l.length) : nth (l.set i v) k = if i = k then v else nth l k := by
  unfold nth
  rw [List.getD_eq_getElem?_getD, List.getD_eq_getElem?_getD, List.getElem?_set]
  split
  · rename_i e; subst e; rw [if_pos h]; rfl
  · rfl
theorem revTo_nth {l : List Sp} {i k : Nat} (h : k < l.length) : nth (revTo l i) k = if k < i ∨ l.length - i ≤ k then nth l (l.length - 1 - k) else nth l k := nth_range h
theorem revTo_end (l : List Sp) {i : Nat} (h : l.length ≤ 2 * i + 1) : revTo l i = l.reverse := by
  refine list_ext (by simp [revTo]) fun k hk => ?_
  rw [revTo_length] at hk
  have e : nth l.reverse k = nth l (l.length - 1 - k) := by simp [nth, List.getD_eq_getElem?_getD, List.getElem?_reverse hk]
  rw [revTo_nth hk, e]
  split
  · rfl
  · congr 1; omega
theorem revTo_step (l : List Sp) {i : Nat} (h : 2 * i + 1 < l.length) : ((revTo l i).set i (nth (revTo l i) (l.length - 1 - i))).set (l.length - 1 - i) (nth (revTo l i) i) = revTo l (i + 1) := by
  refine list_ext (by simp [revTo]) fun k hk => ?_
  have hk' : k < l.length := by simpa [revTo] using hk
  rw [nth_set _ _ _ _ (by simp [revTo]; omega), nth_set _ _ _ _ (by simp [revTo]; omega), revTo_nth (by omega), revTo_nth (by omega), revTo_nth hk', revTo_nth hk']
  by_cases h1 : l.length - 1 - i = k
  · rw [if_pos h1, if_neg (by omega), if_pos (by omega)]; congr 1; omega
  · rw [if_neg h1]
    by_cases h2 : i = k
    · rw [if_pos h2, if_neg (by omega), if_pos (by omega)]; congr 1; omega
    · rw [if_neg h2]
      by_cases h3 : k < i ∨ l.length - i ≤ k
      · rw [if_pos h3, if_pos (by omega)]
      · rw [if_neg h3, if_neg (by omega)]
/-- A row of an owned slice, stored. -/
theorem set_row (L : List Sp) (i : Nat) (s : Sp) (h : i < L.length) : (L.map spR).set i (put ((L.map spR).getD i []) 0 [.v (.int .i64 s.1), .v (.int .i64 s.2)]) = (L.set i s).map spR := by
  rw [nth_map spR L i h, List.map_set]
  rfl
theorem reverse_spec (l : List Sp) (hl : l.length < 1000000) : SpecG Tryd.prog 73 [.ob 0 l.length] [.row 50 2 (l.map spR) false] (.tup []) [.row 50 2 (l.reverse.map spR) false] := by
  have e1 : IntKind.i64.wrap ((l.length : Int) - 1) = (l.length : Int) - 1 := wrap_id (by omega) (by omega)
  refine spec_go (N := 28) (rs := []) (eq := eqs) rfl rfl fun_73 rfl (by kernel_rfl) (by kernel_rfl) (by simp) (by simp) (by simp) (by simp) fun R hR => ?_
  simp (maxSteps := 2000000) only [vcA, ↓vcP, ↓reduceIte, reduceCtorEq, Nat.reduceAdd, Nat.reduceMul, Nat.reduceSub, Nat.reduceLT, Nat.reduceLeDiff, Nat.reduceEqDiff, Nat.reduceBEq, Nat.reduceBNe, Nat.reduceGT, Nat.reduceDiv, Nat.reduceMod, Int.reduceAdd, Int.reduceSub, Int.reduceNeg, Int.reduceLT, Int.reduceLE, Int.reduceEq, Int.reduceToNat, fA, e1]
  refine goC_loop (α := {i : Nat // 2 * i ≤ l.length + 1}) (fun x => ⟨[(0, .ob 0 l.length), (2, .v (.int .i64 x.1)), (3, .v (.int .i64 ((l.length : Int) - 1 - x.1)))], [(0, .row 50 2 ((revTo l x.1).map spR) false)]⟩) (fun x => l.length + 1 - x.1) ⟨0, by omega⟩ [] ?_ ?_
  · simp (maxSteps := 2000000) only [enA, ↓enP, Nat.reduceAdd, Nat.reduceMul, Nat.reduceSub, Nat.reduceLT, Nat.reduceLeDiff, Nat.reduceEqDiff, Nat.reduceBEq, ↓reduceIte, reduceCtorEq, fA]
    have : revTo l 0 = l := by
      refine list_ext (by simp [revTo]) fun k hk => ?_
      rw [revTo_length] at hk
      rw [revTo_nth hk, if_neg (by omega)]
    rw [this]
    refine ⟨⟨rfl, by omega⟩, rfl⟩
  intro x B hB
  obtain ⟨i, hi'⟩ := x
  simp (maxSteps := 2000000) only [vcA, ↓vcP, ↓reduceIte, reduceCtorEq, Nat.reduceAdd, Nat.reduceMul, Nat.reduceSub, Nat.reduceLT, Nat.reduceLeDiff, Nat.reduceEqDiff, Nat.reduceBEq, Nat.reduceBNe, Nat.reduceGT, Nat.reduceDiv, Nat.reduceMod, Int.reduceAdd, Int.reduceSub, Int.reduceNeg, Int.reduceLT, Int.reduceLE, Int.reduceEq, Int.reduceToNat, fA, spR, revTo_length, List.length_set]
  refine ⟨fun h1 => ?_, fun h1 => hR _ (fin_of1 [] ?_)⟩
  · repeat (first | refine ⟨by omega, fun _ => ?_⟩ | refine ⟨by omega, ?_⟩ | refine ⟨by (repeat' apply And.intro) <;> kernel_rfl, ?_⟩ | refine ⟨by (repeat' apply And.intro) <;> kernel_rfl, fun _ => ?_⟩)
    refine hB _ ⟨i + 1, by omega⟩ [] ?_ rfl ?_
    · simp only; omega
    · simp (maxSteps := 2000000) only [enA, ↓enP, Nat.reduceAdd, Nat.reduceMul, Nat.reduceSub, Nat.reduceLT, Nat.reduceLeDiff, Nat.reduceEqDiff, Nat.reduceBEq, ↓reduceIte, reduceCtorEq, fA]
      have eT : ((l.length : Int) - 1 - (i : Int)).toNat = l.length - 1 - i := by omega
      rw [eT, set_row _ _ _ (by rw [revTo_length]; omega), set_row _ _ _ (by rw [List.length_set, revTo_length]; omega), wrap_id (by omega) (by omega), wrap_id (by omega) (by omega), revTo_step l (by omega)]
      exact ⟨⟨rfl, by omega⟩, rfl⟩
  · simp (maxSteps := 2000000) only [enA, ↓enP, Nat.reduceAdd, Nat.reduceMul, Nat.reduceSub, Nat.reduceLT, Nat.reduceLeDiff, Nat.reduceEqDiff, Nat.reduceBEq, ↓reduceIte, reduceCtorEq, fA]
    rw [revTo_end l (by omega)]
/-- A span no farther from its neighbour than the bend. -/
def pAt (bend : Int) (L : List Sp) (i : Nat) : Sp := meetS (nth L i) ((nth L (i - 1)).1 - bend, (nth L (i - 1)).2 + bend)
def pIter (bend : Int) (L : List Sp) : Nat → List Sp
  | 0 => L
  | i + 1 => (pIter bend L i).set (i + 1) (pAt bend (pIter bend L i) (i + 1))
def passOk (bend : Int) (L : List Sp) : Bool := (List.range (L.length - 1)).all fun i => decide ((pAt bend (pIter bend L i) (i + 1)).1 ≤ (pAt bend (pIter bend L i) (i + 1)).2)
def pass (bend : Int) (L : List Sp) : List Sp := (pIter bend L (L.length - 1)).reverse
/-- What is left of spans; nothing, if one is empty. -/
def bentS (bend : Int) (L : List Sp) : Option (List Sp) := if passOk bend L && passOk bend (pass bend L) then some (pass bend (pass bend L)) else none
theorem pIter_length (bend : Int) (L : List Sp) : ∀ i, (pIter bend L i).length = L.length
  | 0 => rfl
  | i + 1 => by rw [pIter, List.length_set, pIter_length bend L i]
def Okl (L : List Sp) : Prop := ∀ s ∈ L, 0 ≤ s.1 ∧ s.1 ≤ s.2 ∧ s.2 ≤ 300
theorem Okl.set {L : List Sp} (h : Okl L) {i : Nat} {s : Sp} (hs : 0 ≤ s.1 ∧ s.1 ≤ s.2 ∧ s.2 ≤ 300) : Okl (L.set i s) := fun t ht => by
  rcases List.mem_or_eq_of_mem_set ht with h1 | rfl
  · exact h t h1
  · exact hs
theorem pAt_ok {bend : Int} {L : List Sp} (h : Okl L) {i : Nat} (hi : i < L.length) (he : (pAt bend L i).1 ≤ (pAt bend L i).2) : 0 ≤ (pAt bend L i).1 ∧ (pAt bend L i).1 ≤ (pAt bend L i).2 ∧ (pAt bend L i).2 ≤ 300 := by
  have := h _ (nth_mem hi)
  refine ⟨?_, he, ?_⟩
  · show 0 ≤ max (nth L i).1 _; omega
  · show min (nth L i).2 _ ≤ 300; omega
theorem bent_spec (l : List Sp) (bend : Int) (hl : l.length ≤ 1000) (hok : Okl l) (hb : 0 ≤ bend ∧ bend ≤ 300) : SpecF Tryd.prog 48 [.sl 2 (l.map spR), .v (.int .i64 bend)] (.tup [.ob 0 ((bentS bend l).getD []).length, .v (.bool (bentS bend l).isSome)]) [.row 50 2 (((bentS bend l).getD []).map spR) false] := by
  refine spec_go (N := 55) (rs := [.tmp 4, .tmp 5]) (eq := eqs) rfl rfl fun_48 rfl (by kernel_rfl) (by kernel_rfl) (by simp) (by simp) (by simp) (by simp) fun R hR => ?_
  simp (maxSteps := 2000000) only [vcA, ↓vcP, ↓reduceIte, reduceCtorEq, Nat.reduceAdd, Nat.reduceMul, Nat.reduceSub, Nat.reduceLT, Nat.reduceLeDiff, Nat.reduceEqDiff, Nat.reduceBEq, Nat.reduceBNe, Nat.reduceGT, Nat.reduceDiv, Nat.reduceMod, Int.reduceAdd, Int.reduceSub, Int.reduceNeg, Int.reduceLT, Int.reduceLE, Int.reduceEq, Int.reduceToNat, fA]
  refine onF_call (clone_spec l (by omega)) [] [] [] ?_ ?_
  · simp (maxSteps := 2000000) only [okA, ↓okP, Nat.reduceAdd, Nat.reduceMul, Nat.reduceSub, Nat.reduceLT, Nat.reduceLeDiff, Nat.reduceEqDiff, Nat.reduceBEq, ↓reduceIte, reduceCtorEq]
  simp (maxSteps := 2000000) only [vcA, ↓vcP, ↓reduceIte, reduceCtorEq, Nat.reduceAdd, Nat.reduceMul, Nat.reduceSub, Nat.reduceLT, Nat.reduceLeDiff, Nat.reduceEqDiff, Nat.reduceBEq, Nat.reduceBNe, Nat.reduceGT, Nat.reduceDiv, Nat.reduceMod, Int.reduceAdd, Int.reduceSub, Int.reduceNeg, Int.reduceLT, Int.reduceLE, Int.reduceEq, Int.reduceToNat, fA]
  refine goC_loop (α := {x : Nat × List Sp // x.1 ≤ 2 ∧ x.2.length = l.length ∧ Okl x.2 ∧ (x.1 = 0 → x.2 = l) ∧ (x.1 = 1 → passOk bend l = true ∧ x.2 = pass bend l) ∧ (x.1 = 2 → bentS bend l = some x.2)}) (fun x => ⟨[(1, .v (.int .i64 bend)), (4, .ob 32 l.length), (5, .v (.bool false)), (10, .v (.int .i64 x.1.1))], [(32, .row 50 2 (x.1.2.map spR) false)]⟩) (fun x => 2 - x.1.1) ⟨(0, l), by omega, rfl, hok, fun _ => rfl, fun h => by omega, fun h => by omega⟩ [] ?_ ?_
  · simp (maxSteps := 2000000) only [enA, ↓enP, Nat.reduceAdd, Nat.reduceMul, Nat.reduceSub, Nat.reduceLT, Nat.reduceLeDiff, Nat.reduceEqDiff, Nat.reduceBEq, ↓reduceIte, reduceCtorEq, fA]
    rfl
  intro x B hB
  obtain ⟨⟨t, L⟩, ht, hL, hLok, h0, h1, h2⟩ := x
  simp only at ht hL hLok h0 h1 h2
  simp (maxSteps := 2000000) only [vcA, ↓vcP, ↓reduceIte, reduceCtorEq, Nat.reduceAdd, Nat.reduceMul, Nat.reduceSub, Nat.reduceLT, Nat.reduceLeDiff, Nat.reduceEqDiff, Nat.reduceBEq, Nat.reduceBNe, Nat.reduceGT, Nat.reduceDiv, Nat.reduceMod, Int.reduceAdd, Int.reduceSub, Int.reduceNeg, Int.reduceLT, Int.reduceLE, Int.reduceEq, Int.reduceToNat, fA]
  refine ⟨fun h3 => ?_, fun h3 => hR _ (fin_of1 [some 32] ?_)⟩
  · refine goC_loop (α := {i : Nat // i ≤ L.length - 1 ∧ Okl (pIter bend L i) ∧ ∀ j, j < i → (pAt bend (pIter bend L j) (j + 1)).1 ≤ (pAt bend (pIter bend L j) (j + 1)).2}) (fun x => ⟨[(1, .v (.int .i64 bend)), (4, .ob 32 l.length), (5, .v (.bool false)), (6, .v (.int .i64 ((x.1 : Int) + 1))), (10, .v (.int .i64 t))], [(32, .row 50 2 ((pIter bend L x.1).map spR) false)]⟩) (fun x => L.length - x.1) ⟨0, by omega, hLok, fun j hj => by omega⟩ [] ?_ ?_
    · simp (maxSteps := 2000000) only [enA, ↓enP, Nat.reduceAdd, Nat.reduceMul, Nat.reduceSub, Nat.reduceLT, Nat.reduceLeDiff, Nat.reduceEqDiff, Nat.reduceBEq, ↓reduceIte, reduceCtorEq, fA]
      exact ⟨rfl, rfl⟩
    intro x B2 hB2
    obtain ⟨i, hi, hOk, hj⟩ := x
    have hPl := pIter_length bend L i
    have e1 : IntKind.i64.wrap ((i : Int) + 1 - 1) = (i : Int) := by rw [wrap_id (by omega) (by omega)]; omega
    have e2 : ((i : Int) + 1).toNat = i + 1 := by omega
    have hMi : i < L.length → 0 ≤ (nth (pIter bend L i) i).1 ∧ (nth (pIter bend L i) i).1 ≤ (nth (pIter bend L i) i).2 ∧ (nth (pIter bend L i) i).2 ≤ 300 := fun h => hOk _ (nth_mem (by omega))
    simp (maxSteps := 2000000) only [vcA, ↓vcP, ↓reduceIte, reduceCtorEq, Nat.reduceAdd, Nat.reduceMul, Nat.reduceSub, Nat.reduceLT, Nat.reduceLeDiff, Nat.reduceEqDiff, Nat.reduceBEq, Nat.reduceBNe, Nat.reduceGT, Nat.reduceDiv, Nat.reduceMod, Int.reduceAdd, Int.reduceSub, Int.reduceNeg, Int.reduceLT, Int.reduceLE, Int.reduceEq, Int.reduceToNat, fA, spR, e1, e2, pIter_length, List.length_set]
    refine ⟨fun h4 => ?_, fun h4 => ?_⟩
    · have hM := hMi (by omega)
      refine ⟨by omega, fun _ => ⟨by omega, fun _ => ⟨by omega, fun _ => ⟨by omega, fun _ => ?_⟩⟩⟩⟩
      rw [wrap_id (x := (nth (pIter bend L i) i).1 - bend) (by omega) (by omega), wrap_id (x := (nth (pIter bend L i) i).2 + bend) (by omega) (by omega)]
      refine onF_data (meet_spec (nth (pIter bend L i) (i + 1)) ((nth (pIter bend L i) i).1 - bend, (nth (pIter bend L i) i).2 + bend)) ?_ ?_
      · simp (maxSteps := 2000000) only [okA, ↓okP, Nat.reduceAdd, Nat.reduceMul, Nat.reduceSub, Nat.reduceLT, Nat.reduceLeDiff, Nat.reduceEqDiff, Nat.reduceBEq, ↓reduceIte, reduceCtorEq]
      have hm : meetS (nth (pIter bend L i) (i + 1)) ((nth (pIter bend L i) i).1 - bend, (nth (pIter bend L i) i).2 + bend) = pAt bend (pIter bend L i) (i + 1) := rfl
      rw [hm]
      have hs : (List.map spR (pIter bend L i)).set (i + 1) (put ((List.map spR (pIter bend L i)).getD (i + 1) []) 0 [.v (.int .i64 (pAt bend (pIter bend L i) (i + 1)).1), .v (.int .i64 (pAt bend (pIter bend L i) (i + 1)).2)]) = List.map spR (pIter bend L (i + 1)) := set_row _ _ _ (by omega)
      have hn : nth (pIter bend L (i + 1)) (i + 1) = pAt bend (pIter bend L i) (i + 1) := by
        show nth ((pIter bend L i).set (i + 1) _) (i + 1) = _
        rw [nth_set _ _ _ _ (by omega), if_pos rfl]
      simp (maxSteps := 2000000) only [vcA, ↓vcP, ↓reduceIte, reduceCtorEq, Nat.reduceAdd, Nat.reduceMul, Nat.reduceSub, Nat.reduceLT, Nat.reduceLeDiff, Nat.reduceEqDiff, Nat.reduceBEq, Nat.reduceBNe, Nat.reduceGT, Nat.reduceDiv, Nat.reduceMod, Int.reduceAdd, Int.reduceSub, Int.reduceNeg, Int.reduceLT, Int.reduceLE, Int.reduceEq, Int.reduceToNat, fA, spR, e1, e2, pIter_length, List.length_set, hs, hn]
      refine ⟨by omega, fun _ => ⟨by omega, fun _ => ⟨⟨by kernel_rfl, by kernel_rfl, by kernel_rfl⟩, ?_⟩⟩⟩
      repeat (first | refine ⟨by omega, fun _ => ?_⟩ | refine ⟨by omega, ?_⟩)
      refine ⟨fun h5 => hR _ (fin_of1 [none] ?_), fun h5 => hB2 _ ⟨i + 1, by omega, ?_, ?_⟩ [] ?_ rfl ?_⟩
      · simp (maxSteps := 2000000) only [enA, ↓enP, Nat.reduceAdd, Nat.reduceMul, Nat.reduceSub, Nat.reduceLT, Nat.reduceLeDiff, Nat.reduceEqDiff, Nat.reduceBEq, ↓reduceIte, reduceCtorEq, fA]
        have hp : passOk bend L = false := by
          unfold passOk
          rw [List.all_eq_false]
          refine ⟨i, List.mem_range.2 (by omega), ?_⟩
          simp
          omega
        have hnone : bentS bend l = none := by
          unfold bentS
          rcases Nat.eq_zero_or_pos t with h | h
          · have := h0 h
            subst this
            rw [hp]
            rfl
          · obtain ⟨h6, h7⟩ := h1 (by omega)
            rw [← h7, h6, hp]
            rfl
        rw [hnone]
        exact ⟨⟨rfl, rfl⟩, rfl⟩
      · have := pAt_ok hOk (i := i + 1) (by omega) (by simpa using h5)
        exact hOk.set this
      · intro j hj'
        by_cases e : j = i
        · subst e; simpa using h5
        · exact hj j (by omega)
      · simp only; omega
      · simp (maxSteps := 2000000) only [enA, ↓enP, Nat.reduceAdd, Nat.reduceMul, Nat.reduceSub, Nat.reduceLT, Nat.reduceLeDiff, Nat.reduceEqDiff, Nat.reduceBEq, ↓reduceIte, reduceCtorEq, fA]
        rw [wrap_id (by omega) (by omega)]
        omega
    · have hpl : (pIter bend L i).length = L.length := pIter_length bend L i
      have hil : i = L.length - 1 := by omega
      have hpass : passOk bend L = true := by
        unfold passOk
        rw [List.all_eq_true]
        intro j hj'
        have := hj j (by have := List.mem_range.1 hj'; omega)
        simpa using this
      have hrev : (pIter bend L i).reverse = pass bend L := by rw [hil]; rfl
      have hspec := reverse_spec (pIter bend L i) (by omega)
      rw [hpl, hL] at hspec
      refine onF_call hspec [] [] [32] ?_ ?_
      · simp (maxSteps := 2000000) only [okA, ↓okP, Nat.reduceAdd, Nat.reduceMul, Nat.reduceSub, Nat.reduceLT, Nat.reduceLeDiff, Nat.reduceEqDiff, Nat.reduceBEq, ↓reduceIte, reduceCtorEq]
      rw [hrev]
      simp (maxSteps := 2000000) only [vcA, ↓vcP, ↓reduceIte, reduceCtorEq, Nat.reduceAdd, Nat.reduceMul, Nat.reduceSub, Nat.reduceLT, Nat.reduceLeDiff, Nat.reduceEqDiff, Nat.reduceBEq, Nat.reduceBNe, Nat.reduceGT, Nat.reduceDiv, Nat.reduceMod, Int.reduceAdd, Int.reduceSub, Int.reduceNeg, Int.reduceLT, Int.reduceLE, Int.reduceEq, Int.reduceToNat, fA]
      refine hB _ ⟨(t + 1, pass bend L), by omega, ?_, ?_, fun h => by omega, ?_, ?_⟩ [] ?_ rfl ?_
      · show (pIter bend L (L.length - 1)).reverse.length = _; rw [List.length_reverse, pIter_length, hL]
      · rw [← hrev]; exact fun s hs => hOk s (List.mem_reverse.1 hs)
      · intro h
        have h : t = 0 := by omega
        subst h
        have := h0 rfl
        subst this
        exact ⟨hpass, rfl⟩
      · intro h
        have h : t = 1 := by omega
        obtain ⟨h6, h7⟩ := h1 h
        unfold bentS
        rw [← h7, h6, hpass]
        rfl
      · simp only; omega
      · simp (maxSteps := 2000000) only [enA, ↓enP, Nat.reduceAdd, Nat.reduceMul, Nat.reduceSub, Nat.reduceLT, Nat.reduceLeDiff, Nat.reduceEqDiff, Nat.reduceBEq, ↓reduceIte, reduceCtorEq, fA]
        rw [wrap_id (by omega) (by omega)]
        rfl
  · simp (maxSteps := 2000000) only [enA, ↓enP, Nat.reduceAdd, Nat.reduceMul, Nat.reduceSub, Nat.reduceLT, Nat.reduceLeDiff, Nat.reduceEqDiff, Nat.reduceBEq, ↓reduceIte, reduceCtorEq, fA]
    rw [h2 (by omega)]
    exact ⟨⟨hL.symm, rfl⟩, rfl⟩
end Go.Proofs.YtciegkpjenjaeaaDoor.Ab
namespace Go.Proofs.YtciegkpjenjaeaaDoor.Ab
open Go Go.RowKit
set_option linter.unusedVariables false
set_option linter.unusedSimpArgs false
set_option maxRecDepth 100000
structure Bl where
  bottom : List Sp
  top : List Sp
  bend : Int
  cracks : List Crk
def edgesOk (b : Bl) : Bool := (List.range b.bottom.length).all fun i => isEdges (nth b.bottom i) (nth b.top i)
def formErr (b : Bl) : Int :=
  if b.bottom.length ≠ b.top.length ∨ betw 1 30 [(b.bottom.length : Int)] = false then 4 else if 4 < b.cracks.length then 5
  else if betw 0 300 [b.bend] = false ∨ (b.cracks.any fun c => !isCrack c b.bottom.length) = true then 2 else if edgesOk b = false then 2 else 0
theorem form_spec (b : Bl) (h1 : b.bottom.length < 1000000) (h2 : b.top.length < 1000000) : SpecF Tryd.prog 47 [.agg [.sl 2 (b.bottom.map spR), .sl 2 (b.top.map spR), .v (.int .i64 b.bend), .sl 6 (b.cracks.map crR)]] (.v (.int .i64 (formErr b))) [] := by
  refine spec_go (N := 50) (rs := [.tmp 2]) (eq := eqs) rfl rfl fun_47 rfl (by kernel_rfl) (by kernel_rfl) (by simp) (by simp) (by simp) (by simp) fun R hR => ?_
  simp (maxSteps := 2000000) only [vcA, ↓vcP, ↓reduceIte, reduceCtorEq, Nat.reduceAdd, Nat.reduceMul, Nat.reduceSub, Nat.reduceLT, Nat.reduceLeDiff, Nat.reduceEqDiff, Nat.reduceBEq, Nat.reduceBNe, Nat.reduceGT, Nat.reduceDiv, Nat.reduceMod, Int.reduceAdd, Int.reduceSub, Int.reduceNeg, Int.reduceLT, Int.reduceLE, Int.reduceEq, Int.reduceToNat, fA]
  refine ⟨fun h3 => ⟨fun _ => hR _ (fin_of0 ?_), fun h' => by rw [h3] at h'; cases h'⟩, fun h3 => ?_⟩
  · simp (maxSteps := 2000000) only [enA, ↓enP, Nat.reduceAdd, Nat.reduceMul, Nat.reduceSub, Nat.reduceLT, Nat.reduceLeDiff, Nat.reduceEqDiff, Nat.reduceBEq, ↓reduceIte, reduceCtorEq, fA]
    have h4 : b.bottom.length ≠ b.top.length := by simp at h3; omega
    unfold formErr
    rw [if_pos (.inl h4)]
  have h4 : b.bottom.length = b.top.length := by simp at h3; omega
  refine onF_call3 (tooth_within 1 30 [(b.bottom.length : Int)] (by simp)) ?_ ?_
  · simp (maxSteps := 2000000) only [okA, ↓okP, Nat.reduceAdd, Nat.reduceMul, Nat.reduceSub, Nat.reduceLT, Nat.reduceLeDiff, Nat.reduceEqDiff, Nat.reduceBEq, ↓reduceIte, reduceCtorEq]
    rfl
  simp (maxSteps := 2000000) only [vcA, ↓vcP, ↓reduceIte, reduceCtorEq, Nat.reduceAdd, Nat.reduceMul, Nat.reduceSub, Nat.reduceLT, Nat.reduceLeDiff, Nat.reduceEqDiff, Nat.reduceBEq, Nat.reduceBNe, Nat.reduceGT, Nat.reduceDiv, Nat.reduceMod, Int.reduceAdd, Int.reduceSub, Int.reduceNeg, Int.reduceLT, Int.reduceLE, Int.reduceEq, Int.reduceToNat, fA]
  refine ⟨fun h5 => hR _ (fin_of0 ?_), fun h5 => ⟨fun h6 => hR _ (fin_of0 ?_), fun h6 => ?_⟩⟩
  · simp (maxSteps := 2000000) only [enA, ↓enP, Nat.reduceAdd, Nat.reduceMul, Nat.reduceSub, Nat.reduceLT, Nat.reduceLeDiff, Nat.reduceEqDiff, Nat.reduceBEq, ↓reduceIte, reduceCtorEq, fA]
    unfold formErr
    rw [if_pos (.inr (by simpa using h5))]
  · simp (maxSteps := 2000000) only [enA, ↓enP, Nat.reduceAdd, Nat.reduceMul, Nat.reduceSub, Nat.reduceLT, Nat.reduceLeDiff, Nat.reduceEqDiff, Nat.reduceBEq, ↓reduceIte, reduceCtorEq, fA]
    unfold formErr
    rw [if_neg (by rintro (h | h); exact h h4; rw [h] at h5; simp at h5), if_pos (by omega)]
  have hb : betw 1 30 [(b.bottom.length : Int)] = true := by simpa using h5
  have hn := betw1 hb
  have e1 : ∀ x, formErr b = x ↔ (if betw 0 300 [b.bend] = false ∨ (b.cracks.any fun c => !isCrack c b.bottom.length) = true then 2 else if edgesOk b = false then 2 else 0) = x := fun x => by
    unfold formErr
    rw [if_neg (by rintro (h | h); exact h h4; rw [h] at hb; simp at hb), if_neg (by omega)]
  refine onF_call3 (tooth_within 0 300 [b.bend] (by simp)) ?_ ?_
  · simp (maxSteps := 2000000) only [okA, ↓okP, Nat.reduceAdd, Nat.reduceMul, Nat.reduceSub, Nat.reduceLT, Nat.reduceLeDiff, Nat.reduceEqDiff, Nat.reduceBEq, ↓reduceIte, reduceCtorEq]
    rfl
  simp (maxSteps := 2000000) only [vcA, ↓vcP, ↓reduceIte, reduceCtorEq, Nat.reduceAdd, Nat.reduceMul, Nat.reduceSub, Nat.reduceLT, Nat.reduceLeDiff, Nat.reduceEqDiff, Nat.reduceBEq, Nat.reduceBNe, Nat.reduceGT, Nat.reduceDiv, Nat.reduceMod, Int.reduceAdd, Int.reduceSub, Int.reduceNeg, Int.reduceLT, Int.reduceLE, Int.reduceEq, Int.reduceToNat, fA]
  refine ⟨fun h7 => ⟨fun _ => hR _ (fin_of0 ?_), fun h' => by rw [h7] at h'; cases h'⟩, fun h7 => ?_⟩
  · simp (maxSteps := 2000000) only [enA, ↓enP, Nat.reduceAdd, Nat.reduceMul, Nat.reduceSub, Nat.reduceLT, Nat.reduceLeDiff, Nat.reduceEqDiff, Nat.reduceBEq, ↓reduceIte, reduceCtorEq, fA]
    exact ((e1 2).2 (if_pos (.inl (by simpa using h7)))).symm
  have h8 : betw 0 300 [b.bend] = true := by simpa using h7
  refine onF_call (crk_contains (.int .i64 (b.bottom.length : Int)) b.cracks (by omega) (p := fun c => !isCrack c b.bottom.length) (fun i hi => isCrackNot_spec _ _ (by omega))) [] [] [48] ?_ ?_
  · simp (maxSteps := 2000000) only [okA, ↓okP, Nat.reduceAdd, Nat.reduceMul, Nat.reduceSub, Nat.reduceLT, Nat.reduceLeDiff, Nat.reduceEqDiff, Nat.reduceBEq, ↓reduceIte, reduceCtorEq]
  simp (maxSteps := 2000000) only [vcA, ↓vcP, ↓reduceIte, reduceCtorEq, Nat.reduceAdd, Nat.reduceMul, Nat.reduceSub, Nat.reduceLT, Nat.reduceLeDiff, Nat.reduceEqDiff, Nat.reduceBEq, Nat.reduceBNe, Nat.reduceGT, Nat.reduceDiv, Nat.reduceMod, Int.reduceAdd, Int.reduceSub, Int.reduceNeg, Int.reduceLT, Int.reduceLE, Int.reduceEq, Int.reduceToNat, fA]
  refine ⟨fun h9 => hR _ (fin_of0 ?_), fun h9 => ?_⟩
  · simp (maxSteps := 2000000) only [enA, ↓enP, Nat.reduceAdd, Nat.reduceMul, Nat.reduceSub, Nat.reduceLT, Nat.reduceLeDiff, Nat.reduceEqDiff, Nat.reduceBEq, ↓reduceIte, reduceCtorEq, fA]
    exact ((e1 2).2 (if_pos (.inr h9))).symm
  have e2 : ∀ x, formErr b = x ↔ (if edgesOk b = false then (2 : Int) else 0) = x := fun x => by
    rw [e1 x, if_neg (by rintro (h | h); rw [h] at h8; cases h8; rw [h] at h9; cases h9)]
  refine goC_loop (α := {i : Nat // i ≤ b.bottom.length ∧ ∀ j, j < i → isEdges (nth b.bottom j) (nth b.top j) = true}) (fun x => ⟨[(1, .ptr 8 0), (33, .v (.int .i64 b.bottom.length)), (34, .v (.int .i64 x.1))], [(8, .box 32 [.sl 2 (b.bottom.map spR), .sl 2 (b.top.map spR), .v (.int .i64 b.bend), .sl 6 (b.cracks.map crR)])]⟩) (fun x => b.bottom.length - x.1) ⟨0, by omega, by omega⟩ [] ?_ ?_
  · simp (maxSteps := 2000000) only [enA, ↓enP, Nat.reduceAdd, Nat.reduceMul, Nat.reduceSub, Nat.reduceLT, Nat.reduceLeDiff, Nat.reduceEqDiff, Nat.reduceBEq, ↓reduceIte, reduceCtorEq, fA]
    rfl
  intro x B hB
  obtain ⟨i, hi, hx⟩ := x
  simp (maxSteps := 2000000) only [vcA, ↓vcP, ↓reduceIte, reduceCtorEq, Nat.reduceAdd, Nat.reduceMul, Nat.reduceSub, Nat.reduceLT, Nat.reduceLeDiff, Nat.reduceEqDiff, Nat.reduceBEq, Nat.reduceBNe, Nat.reduceGT, Nat.reduceDiv, Nat.reduceMod, Int.reduceAdd, Int.reduceSub, Int.reduceNeg, Int.reduceLT, Int.reduceLE, Int.reduceEq, Int.reduceToNat, fA, spR]
  refine ⟨fun h10 => ?_, fun h10 => hR _ (fin_of0 ?_)⟩
  · refine ⟨by omega, fun _ => ⟨by omega, fun _ => ⟨by omega, fun _ => ⟨by omega, fun _ => ?_⟩⟩⟩⟩
    refine onF_data (isEdges_spec (nth b.bottom i) (nth b.top i)) ?_ ?_
    · simp (maxSteps := 2000000) only [okA, ↓okP, Nat.reduceAdd, Nat.reduceMul, Nat.reduceSub, Nat.reduceLT, Nat.reduceLeDiff, Nat.reduceEqDiff, Nat.reduceBEq, ↓reduceIte, reduceCtorEq]
    simp (maxSteps := 2000000) only [vcA, ↓vcP, ↓reduceIte, reduceCtorEq, Nat.reduceAdd, Nat.reduceMul, Nat.reduceSub, Nat.reduceLT, Nat.reduceLeDiff, Nat.reduceEqDiff, Nat.reduceBEq, Nat.reduceBNe, Nat.reduceGT, Nat.reduceDiv, Nat.reduceMod, Int.reduceAdd, Int.reduceSub, Int.reduceNeg, Int.reduceLT, Int.reduceLE, Int.reduceEq, Int.reduceToNat, fA]
    refine ⟨fun h11 => hR _ (fin_of0 ?_), fun h11 => hB _ ⟨i + 1, by omega, ?_⟩ [] ?_ rfl ?_⟩
    · simp (maxSteps := 2000000) only [enA, ↓enP, Nat.reduceAdd, Nat.reduceMul, Nat.reduceSub, Nat.reduceLT, Nat.reduceLeDiff, Nat.reduceEqDiff, Nat.reduceBEq, ↓reduceIte, reduceCtorEq, fA]
      have : edgesOk b = false := by
        unfold edgesOk
        rw [List.all_eq_false]
        exact ⟨i, List.mem_range.2 (by omega), by simpa using h11⟩
      exact ((e2 2).2 (if_pos this)).symm
    · intro j hj
      by_cases e : j = i
      · subst e; simpa using h11
      · exact hx j (by omega)
    · simp only; omega
    · simp (maxSteps := 2000000) only [enA, ↓enP, Nat.reduceAdd, Nat.reduceMul, Nat.reduceSub, Nat.reduceLT, Nat.reduceLeDiff, Nat.reduceEqDiff, Nat.reduceBEq, ↓reduceIte, reduceCtorEq, fA]
      rw [wrap_id (by omega) (by omega)]
      rfl
  · simp (maxSteps := 2000000) only [enA, ↓enP, Nat.reduceAdd, Nat.reduceMul, Nat.reduceSub, Nat.reduceLT, Nat.reduceLeDiff, Nat.reduceEqDiff, Nat.reduceBEq, ↓reduceIte, reduceCtorEq, fA]
    have : edgesOk b = true := by
      unfold edgesOk
      rw [List.all_eq_true]
      intro j hj
      exact hx j (by have := List.mem_range.1 hj; omega)
    exact ((e2 0).2 (if_neg (by rw [this]; simp))).symm
theorem form_ok {b : Bl} (h : formErr b = 0) : b.bottom.length = b.top.length ∧ b.bottom.length ≤ 30 ∧ 1 ≤ b.bottom.length ∧ b.cracks.length ≤ 4 ∧ (0 ≤ b.bend ∧ b.bend ≤ 300) ∧ edgesOk b = true ∧ (b.cracks.any fun c => !isCrack c b.bottom.length) = false := by
  unfold formErr at h
  split at h
  · cases h
  split at h
  · cases h
  split at h
  · cases h
  split at h
  · cases h
  rename_i h1 h2 h3 h4
  simp only [not_or, Bool.not_eq_false] at h1 h3
  have h5 := betw1 h1.2
  refine ⟨by omega, by omega, by omega, by omega, betw1 h3.1, by simpa using h4, by simpa using h3.2⟩
theorem edges_okl {b : Bl} (hl : b.bottom.length = b.top.length) (h : edgesOk b = true) : Okl b.bottom ∧ Okl b.top := by
  have key : ∀ i, i < b.bottom.length → isEdges (nth b.bottom i) (nth b.top i) = true := fun i hi => List.all_eq_true.1 h i (List.mem_range.2 hi)
  have one : ∀ s : Sp, isHeight s = true → 0 ≤ s.1 ∧ s.1 ≤ s.2 ∧ s.2 ≤ 300 := fun s hs => by
    unfold isHeight isSpan at hs
    simp only [Bool.and_eq_true, decide_eq_true_eq] at hs
    have := betw2 hs.1
    omega
  constructor
  · intro s hs
    obtain ⟨i, hi, rfl⟩ := List.mem_iff_getElem.1 hs
    have h1 := key i hi
    have e : nth b.bottom i = b.bottom[i] := by have := nth_eq hi; rw [List.getElem?_eq_getElem hi] at this; exact (Option.some.inj this).symm
    unfold isEdges at h1
    simp only [Bool.and_eq_true] at h1
    rw [← e]
    exact one _ h1.1.1
  · intro s hs
    obtain ⟨i, hi, rfl⟩ := List.mem_iff_getElem.1 hs
    have h1 := key i (by omega)
    have e : nth b.top i = b.top[i] := by have := nth_eq hi; rw [List.getElem?_eq_getElem hi] at this; exact (Option.some.inj this).symm
    unfold isEdges at h1
    simp only [Bool.and_eq_true] at h1
    rw [← e]
    exact one _ h1.1.2
/-- A blade, and what its edges can be; the error. -/
def newErr (b : Bl) : Int := if formErr b ≠ 0 then formErr b else if (bentS b.bend b.bottom).isNone ∨ (bentS b.bend b.top).isNone then 9 else 0
end Go.Proofs.YtciegkpjenjaeaaDoor.Ab
