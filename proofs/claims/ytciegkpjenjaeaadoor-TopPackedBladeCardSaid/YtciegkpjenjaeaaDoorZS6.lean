/- Sticks in bytes: packed, put right. The code's distance: two sealed rows of bytes that differ at two places at most are alike. Plain. -/
import Derived.Test.YtciegkpjenjaeaaDoorZS5
namespace Go.Proofs.YtciegkpjenjaeaaDoor.Ab.T13
open Go Go.RowKit
set_option linter.unusedVariables false
set_option linter.unusedSimpArgs false
set_option maxRecDepth 100000
def codeS (s : Sq) : Int := 12 * s.1 + s.2 - 1
def headB (l : List Sq) : List Int := (l.length : Int) :: l.map codeS
def packB (l : List Sq) : List Int := headB l ++ [s1 (headB l), s2 (headB l)]
theorem spot_by {s : Sq} (h : isSpot s = true) : (0 ≤ s.1 ∧ s.1 ≤ 3) ∧ 1 ≤ s.2 ∧ s.2 ≤ 12 := by
  unfold isSpot at h
  rw [Bool.and_eq_true] at h
  exact ⟨betw1 h.1, betw1 h.2⟩
theorem pack_spec (l : List Sq) (hl : l.length ≤ 40) (hok : ∀ s ∈ l, isSpot s = true) : SpecF Tryd.prog 14 [.sl 2 (l.map sqR)] (.tup [.ob 0 (packB l).length, .v (.int .i64 0)]) [.row 5 1 ((packB l).map bR) false] := by
  have g1 : ((l.length : Int) > 40) = False := eq_false (by omega)
  have g1' : (l.length > 40) = False := eq_false (by omega)
  have hany : l.any (fun s => !isSpot s) = false := by
    rw [List.any_eq_false]
    intro s hs
    simp [hok s hs]
  have u0 : IntKind.u8.wrap (l.length : Int) = (l.length : Int) := by rw [IntKind.wrap_u8]; omega
  have hc := spt_contains (p := fun s => !isSpot s) l (by omega) (g := 28) (fun i hi => notSpot_spec _)
  rw [hany] at hc
  refine spec_go (N := 50) (rs := [.tmp 2, .tmp 3]) (eq := eqs) rfl rfl fun_14 rfl (by kernel_rfl) (by kernel_rfl) (by simp) (by simp) (by simp) (by simp) fun R hR => ?_
  simp (maxSteps := 2000000) only [vcA, ↓vcP, ↓reduceIte, reduceCtorEq, Nat.reduceAdd, Nat.reduceMul, Nat.reduceSub, Nat.reduceLT, Nat.reduceLeDiff, Nat.reduceEqDiff, Nat.reduceBEq, Nat.reduceBNe, Nat.reduceGT, Nat.reduceDiv, Nat.reduceMod, Int.reduceAdd, Int.reduceSub, Int.reduceNeg, Int.reduceLT, Int.reduceLE, Int.reduceEq, Int.reduceToNat, fA, g1, g1']
  try repeat (first | refine ⟨by kernel_rfl, ?_⟩ | refine ⟨⟨by kernel_rfl, by kernel_rfl⟩, ?_⟩ | refine ⟨⟨by kernel_rfl, by kernel_rfl, by kernel_rfl⟩, ?_⟩ | refine ⟨⟨by kernel_rfl, by kernel_rfl, by kernel_rfl, by kernel_rfl⟩, ?_⟩ | refine ⟨⟨by kernel_rfl, by kernel_rfl, by kernel_rfl, by kernel_rfl, by kernel_rfl⟩, ?_⟩ | refine ⟨⟨by kernel_rfl, by kernel_rfl, by kernel_rfl, by kernel_rfl, by kernel_rfl, by kernel_rfl⟩, ?_⟩ | refine ⟨⟨by kernel_rfl, by kernel_rfl, by kernel_rfl, by kernel_rfl, by kernel_rfl, by kernel_rfl, by kernel_rfl⟩, ?_⟩ | refine ⟨⟨by kernel_rfl, by kernel_rfl, by kernel_rfl, by kernel_rfl, by kernel_rfl, by kernel_rfl, by kernel_rfl, by kernel_rfl⟩, ?_⟩ | refine ⟨⟨by kernel_rfl, by kernel_rfl, by kernel_rfl, by kernel_rfl, by kernel_rfl, by kernel_rfl, by kernel_rfl, by kernel_rfl, by kernel_rfl⟩, ?_⟩ | refine ⟨⟨by kernel_rfl, by kernel_rfl, by kernel_rfl, by kernel_rfl, by kernel_rfl, by kernel_rfl, by kernel_rfl, by kernel_rfl, by kernel_rfl, by kernel_rfl⟩, ?_⟩ | refine ⟨⟨by kernel_rfl, by kernel_rfl, by kernel_rfl, by kernel_rfl, by kernel_rfl, by kernel_rfl, by kernel_rfl, by kernel_rfl, by kernel_rfl, by kernel_rfl, by kernel_rfl⟩, ?_⟩ | refine ⟨⟨by kernel_rfl, by kernel_rfl, by kernel_rfl, by kernel_rfl, by kernel_rfl, by kernel_rfl, by kernel_rfl, by kernel_rfl, by kernel_rfl, by kernel_rfl, by kernel_rfl, by kernel_rfl⟩, ?_⟩ | refine ⟨⟨by kernel_rfl, by kernel_rfl, by kernel_rfl, by kernel_rfl, by kernel_rfl, by kernel_rfl, by kernel_rfl, by kernel_rfl, by kernel_rfl, by kernel_rfl, by kernel_rfl, by kernel_rfl, by kernel_rfl⟩, ?_⟩)
  refine onF_data hc ?_ ?_
  · simp (maxSteps := 2000000) only [okA, ↓okP, Nat.reduceAdd, Nat.reduceMul, Nat.reduceSub, Nat.reduceLT, Nat.reduceLeDiff, Nat.reduceEqDiff, Nat.reduceBEq, ↓reduceIte, reduceCtorEq]
  simp (maxSteps := 2000000) only [vcA, ↓vcP, ↓reduceIte, reduceCtorEq, Nat.reduceAdd, Nat.reduceMul, Nat.reduceSub, Nat.reduceLT, Nat.reduceLeDiff, Nat.reduceEqDiff, Nat.reduceBEq, Nat.reduceBNe, Nat.reduceGT, Nat.reduceDiv, Nat.reduceMod, Int.reduceAdd, Int.reduceSub, Int.reduceNeg, Int.reduceLT, Int.reduceLE, Int.reduceEq, Int.reduceToNat, fA, u0]
  try repeat (first | refine ⟨by kernel_rfl, ?_⟩ | refine ⟨⟨by kernel_rfl, by kernel_rfl⟩, ?_⟩ | refine ⟨⟨by kernel_rfl, by kernel_rfl, by kernel_rfl⟩, ?_⟩ | refine ⟨⟨by kernel_rfl, by kernel_rfl, by kernel_rfl, by kernel_rfl⟩, ?_⟩ | refine ⟨⟨by kernel_rfl, by kernel_rfl, by kernel_rfl, by kernel_rfl, by kernel_rfl⟩, ?_⟩ | refine ⟨⟨by kernel_rfl, by kernel_rfl, by kernel_rfl, by kernel_rfl, by kernel_rfl, by kernel_rfl⟩, ?_⟩ | refine ⟨⟨by kernel_rfl, by kernel_rfl, by kernel_rfl, by kernel_rfl, by kernel_rfl, by kernel_rfl, by kernel_rfl⟩, ?_⟩ | refine ⟨⟨by kernel_rfl, by kernel_rfl, by kernel_rfl, by kernel_rfl, by kernel_rfl, by kernel_rfl, by kernel_rfl, by kernel_rfl⟩, ?_⟩ | refine ⟨⟨by kernel_rfl, by kernel_rfl, by kernel_rfl, by kernel_rfl, by kernel_rfl, by kernel_rfl, by kernel_rfl, by kernel_rfl, by kernel_rfl⟩, ?_⟩ | refine ⟨⟨by kernel_rfl, by kernel_rfl, by kernel_rfl, by kernel_rfl, by kernel_rfl, by kernel_rfl, by kernel_rfl, by kernel_rfl, by kernel_rfl, by kernel_rfl⟩, ?_⟩ | refine ⟨⟨by kernel_rfl, by kernel_rfl, by kernel_rfl, by kernel_rfl, by kernel_rfl, by kernel_rfl, by kernel_rfl, by kernel_rfl, by kernel_rfl, by kernel_rfl, by kernel_rfl⟩, ?_⟩ | refine ⟨⟨by kernel_rfl, by kernel_rfl, by kernel_rfl, by kernel_rfl, by kernel_rfl, by kernel_rfl, by kernel_rfl, by kernel_rfl, by kernel_rfl, by kernel_rfl, by kernel_rfl, by kernel_rfl⟩, ?_⟩ | refine ⟨⟨by kernel_rfl, by kernel_rfl, by kernel_rfl, by kernel_rfl, by kernel_rfl, by kernel_rfl, by kernel_rfl, by kernel_rfl, by kernel_rfl, by kernel_rfl, by kernel_rfl, by kernel_rfl, by kernel_rfl⟩, ?_⟩)
  refine goC_loop (α := {i : Nat // i ≤ l.length}) (fun x => ⟨[(20, .sl 2 (l.map sqR)), (21, .v (.int .i64 l.length)), (22, .v (.int .i64 x.1)), (4, .ob 144 (x.1 + 1))], [(144, .row 5 1 (((l.length : Int) :: (l.take x.1).map codeS).map bR) false)]⟩) (fun x => l.length - x.1) ⟨0, by omega⟩ [some 104] ?_ ?_
  · simp (maxSteps := 2000000) only [enA, ↓enP, Nat.reduceAdd, Nat.reduceMul, Nat.reduceSub, Nat.reduceLT, Nat.reduceLeDiff, Nat.reduceEqDiff, Nat.reduceBEq, ↓reduceIte, reduceCtorEq, fA, List.take_zero, List.map_nil, List.map_cons, bR]
    try rfl
  intro x B2 hB2
  obtain ⟨i, hi⟩ := x
  simp only at hB2 ⊢
  by_cases c : i < l.length
  · have p1 : (i < l.length) = True := eq_true c
    obtain ⟨s, hs'⟩ : ∃ s, s = nth l i := ⟨_, rfl⟩
    have hs := spot_by (hok _ (nth_mem c))
    rw [← hs'] at hs
    have hn := hs'.symm
    have v1 : IntKind.i64.wrap (12 * s.1) = 12 * s.1 := wrap_id (by omega) (by omega)
    have v2 : IntKind.i64.wrap (12 * s.1 + s.2) = 12 * s.1 + s.2 := wrap_id (by omega) (by omega)
    have v3 : IntKind.i64.wrap (12 * s.1 + s.2 - 1) = 12 * s.1 + s.2 - 1 := wrap_id (by omega) (by omega)
    have v4 : IntKind.u8.wrap (12 * s.1 + s.2 - 1) = 12 * s.1 + s.2 - 1 := by rw [IntKind.wrap_u8]; omega
    have v7 : IntKind.i64.wrap ((i : Int) + 1) = ((i + 1 : Nat) : Int) := wrap_id (by omega) (by omega)
    have tl2 : (l.take i).length = i := by simp; omega
    have tl : ((l.length : Int) :: (l.take i).map codeS).length = i + 1 := by simp; omega
    have et : (l.take (i + 1)).map codeS = (l.take i).map codeS ++ [codeS s] := by
      rw [List.take_add_one, List.map_append, hs']
      unfold nth
      simp [List.getD_eq_getElem?_getD, c]
    simp (maxSteps := 2000000) only [vcA, ↓vcP, ↓reduceIte, reduceCtorEq, Nat.reduceAdd, Nat.reduceMul, Nat.reduceSub, Nat.reduceLT, Nat.reduceLeDiff, Nat.reduceEqDiff, Nat.reduceBEq, Nat.reduceBNe, Nat.reduceGT, Nat.reduceDiv, Nat.reduceMod, Int.reduceAdd, Int.reduceSub, Int.reduceNeg, Int.reduceLT, Int.reduceLE, Int.reduceEq, Int.reduceToNat, fA, p1, hn, v1, v2, v3, v4, sqR, tl, tl2]
    try repeat (first | refine ⟨by kernel_rfl, ?_⟩ | refine ⟨⟨by kernel_rfl, by kernel_rfl⟩, ?_⟩ | refine ⟨⟨by kernel_rfl, by kernel_rfl, by kernel_rfl⟩, ?_⟩ | refine ⟨⟨by kernel_rfl, by kernel_rfl, by kernel_rfl, by kernel_rfl⟩, ?_⟩ | refine ⟨⟨by kernel_rfl, by kernel_rfl, by kernel_rfl, by kernel_rfl, by kernel_rfl⟩, ?_⟩ | refine ⟨⟨by kernel_rfl, by kernel_rfl, by kernel_rfl, by kernel_rfl, by kernel_rfl, by kernel_rfl⟩, ?_⟩ | refine ⟨⟨by kernel_rfl, by kernel_rfl, by kernel_rfl, by kernel_rfl, by kernel_rfl, by kernel_rfl, by kernel_rfl⟩, ?_⟩ | refine ⟨⟨by kernel_rfl, by kernel_rfl, by kernel_rfl, by kernel_rfl, by kernel_rfl, by kernel_rfl, by kernel_rfl, by kernel_rfl⟩, ?_⟩ | refine ⟨⟨by kernel_rfl, by kernel_rfl, by kernel_rfl, by kernel_rfl, by kernel_rfl, by kernel_rfl, by kernel_rfl, by kernel_rfl, by kernel_rfl⟩, ?_⟩ | refine ⟨⟨by kernel_rfl, by kernel_rfl, by kernel_rfl, by kernel_rfl, by kernel_rfl, by kernel_rfl, by kernel_rfl, by kernel_rfl, by kernel_rfl, by kernel_rfl⟩, ?_⟩ | refine ⟨⟨by kernel_rfl, by kernel_rfl, by kernel_rfl, by kernel_rfl, by kernel_rfl, by kernel_rfl, by kernel_rfl, by kernel_rfl, by kernel_rfl, by kernel_rfl, by kernel_rfl⟩, ?_⟩ | refine ⟨⟨by kernel_rfl, by kernel_rfl, by kernel_rfl, by kernel_rfl, by kernel_rfl, by kernel_rfl, by kernel_rfl, by kernel_rfl, by kernel_rfl, by kernel_rfl, by kernel_rfl, by kernel_rfl⟩, ?_⟩ | refine ⟨⟨by kernel_rfl, by kernel_rfl, by kernel_rfl, by kernel_rfl, by kernel_rfl, by kernel_rfl, by kernel_rfl, by kernel_rfl, by kernel_rfl, by kernel_rfl, by kernel_rfl, by kernel_rfl, by kernel_rfl⟩, ?_⟩)
    refine ⟨⟨by omega, by simp only [maxLen]; omega⟩, fun _ => ?_⟩
    try repeat (first | refine ⟨by kernel_rfl, ?_⟩ | refine ⟨⟨by kernel_rfl, by kernel_rfl⟩, ?_⟩ | refine ⟨⟨by kernel_rfl, by kernel_rfl, by kernel_rfl⟩, ?_⟩ | refine ⟨⟨by kernel_rfl, by kernel_rfl, by kernel_rfl, by kernel_rfl⟩, ?_⟩ | refine ⟨⟨by kernel_rfl, by kernel_rfl, by kernel_rfl, by kernel_rfl, by kernel_rfl⟩, ?_⟩ | refine ⟨⟨by kernel_rfl, by kernel_rfl, by kernel_rfl, by kernel_rfl, by kernel_rfl, by kernel_rfl⟩, ?_⟩ | refine ⟨⟨by kernel_rfl, by kernel_rfl, by kernel_rfl, by kernel_rfl, by kernel_rfl, by kernel_rfl, by kernel_rfl⟩, ?_⟩ | refine ⟨⟨by kernel_rfl, by kernel_rfl, by kernel_rfl, by kernel_rfl, by kernel_rfl, by kernel_rfl, by kernel_rfl, by kernel_rfl⟩, ?_⟩ | refine ⟨⟨by kernel_rfl, by kernel_rfl, by kernel_rfl, by kernel_rfl, by kernel_rfl, by kernel_rfl, by kernel_rfl, by kernel_rfl, by kernel_rfl⟩, ?_⟩ | refine ⟨⟨by kernel_rfl, by kernel_rfl, by kernel_rfl, by kernel_rfl, by kernel_rfl, by kernel_rfl, by kernel_rfl, by kernel_rfl, by kernel_rfl, by kernel_rfl⟩, ?_⟩ | refine ⟨⟨by kernel_rfl, by kernel_rfl, by kernel_rfl, by kernel_rfl, by kernel_rfl, by kernel_rfl, by kernel_rfl, by kernel_rfl, by kernel_rfl, by kernel_rfl, by kernel_rfl⟩, ?_⟩ | refine ⟨⟨by kernel_rfl, by kernel_rfl, by kernel_rfl, by kernel_rfl, by kernel_rfl, by kernel_rfl, by kernel_rfl, by kernel_rfl, by kernel_rfl, by kernel_rfl, by kernel_rfl, by kernel_rfl⟩, ?_⟩ | refine ⟨⟨by kernel_rfl, by kernel_rfl, by kernel_rfl, by kernel_rfl, by kernel_rfl, by kernel_rfl, by kernel_rfl, by kernel_rfl, by kernel_rfl, by kernel_rfl, by kernel_rfl, by kernel_rfl, by kernel_rfl⟩, ?_⟩)
    refine hB2 _ ⟨i + 1, by omega⟩ [some 296] (by simp only; omega) rfl ?_
    simp only [et, List.map_append, List.map_cons, List.map_nil, List.cons_append]
    simp (maxSteps := 2000000) only [enA, ↓enP, Nat.reduceAdd, Nat.reduceMul, Nat.reduceSub, Nat.reduceLT, Nat.reduceLeDiff, Nat.reduceEqDiff, Nat.reduceBEq, ↓reduceIte, reduceCtorEq, fA, v7, codeS, tl2]
    try exact ⟨rfl, rfl⟩
    try rfl
  · obtain rfl : i = l.length := by omega
    have p1 : (l.length < l.length) = False := eq_false (by omega)
    have hh : (l.length : Int) :: (l.take l.length).map codeS = headB l := by rw [List.take_length]; rfl
    rw [hh]
    have hb : ∀ x ∈ headB l, By x := fun x hx => by
      unfold headB at hx
      rcases List.mem_cons.1 hx with rfl | hx
      · unfold By; omega
      · obtain ⟨s, hs, rfl⟩ := List.mem_map.1 hx
        have := spot_by (hok s hs)
        unfold By codeS
        omega
    have hll : (headB l).length = l.length + 1 := by simp [headB]
    have hsum := sums_spec (headB l) (by omega) hb
    have a0 := Int.emod_nonneg (sm (f1 (headB l)) (headB l).length) (b := 251) (by omega)
    have a1 := Int.emod_lt_of_pos (sm (f1 (headB l)) (headB l).length) (b := 251) (by omega)
    have b0 := Int.emod_nonneg (sm (f2 (headB l)) (headB l).length) (b := 251) (by omega)
    have b1 := Int.emod_lt_of_pos (sm (f2 (headB l)) (headB l).length) (b := 251) (by omega)
    have uS : IntKind.u8.wrap (s1 (headB l)) = s1 (headB l) := by unfold s1; rw [IntKind.wrap_u8]; omega
    have uT : IntKind.u8.wrap (s2 (headB l)) = s2 (headB l) := by unfold s2; rw [IntKind.wrap_u8]; omega
    have pl : (packB l).length = l.length + 1 + 2 := by simp [packB, headB]
    simp (maxSteps := 2000000) only [vcA, ↓vcP, ↓reduceIte, reduceCtorEq, Nat.reduceAdd, Nat.reduceMul, Nat.reduceSub, Nat.reduceLT, Nat.reduceLeDiff, Nat.reduceEqDiff, Nat.reduceBEq, Nat.reduceBNe, Nat.reduceGT, Nat.reduceDiv, Nat.reduceMod, Int.reduceAdd, Int.reduceSub, Int.reduceNeg, Int.reduceLT, Int.reduceLE, Int.reduceEq, Int.reduceToNat, fA, p1]
    try repeat (first | refine ⟨by kernel_rfl, ?_⟩ | refine ⟨⟨by kernel_rfl, by kernel_rfl⟩, ?_⟩ | refine ⟨⟨by kernel_rfl, by kernel_rfl, by kernel_rfl⟩, ?_⟩ | refine ⟨⟨by kernel_rfl, by kernel_rfl, by kernel_rfl, by kernel_rfl⟩, ?_⟩ | refine ⟨⟨by kernel_rfl, by kernel_rfl, by kernel_rfl, by kernel_rfl, by kernel_rfl⟩, ?_⟩ | refine ⟨⟨by kernel_rfl, by kernel_rfl, by kernel_rfl, by kernel_rfl, by kernel_rfl, by kernel_rfl⟩, ?_⟩ | refine ⟨⟨by kernel_rfl, by kernel_rfl, by kernel_rfl, by kernel_rfl, by kernel_rfl, by kernel_rfl, by kernel_rfl⟩, ?_⟩ | refine ⟨⟨by kernel_rfl, by kernel_rfl, by kernel_rfl, by kernel_rfl, by kernel_rfl, by kernel_rfl, by kernel_rfl, by kernel_rfl⟩, ?_⟩ | refine ⟨⟨by kernel_rfl, by kernel_rfl, by kernel_rfl, by kernel_rfl, by kernel_rfl, by kernel_rfl, by kernel_rfl, by kernel_rfl, by kernel_rfl⟩, ?_⟩ | refine ⟨⟨by kernel_rfl, by kernel_rfl, by kernel_rfl, by kernel_rfl, by kernel_rfl, by kernel_rfl, by kernel_rfl, by kernel_rfl, by kernel_rfl, by kernel_rfl⟩, ?_⟩ | refine ⟨⟨by kernel_rfl, by kernel_rfl, by kernel_rfl, by kernel_rfl, by kernel_rfl, by kernel_rfl, by kernel_rfl, by kernel_rfl, by kernel_rfl, by kernel_rfl, by kernel_rfl⟩, ?_⟩ | refine ⟨⟨by kernel_rfl, by kernel_rfl, by kernel_rfl, by kernel_rfl, by kernel_rfl, by kernel_rfl, by kernel_rfl, by kernel_rfl, by kernel_rfl, by kernel_rfl, by kernel_rfl, by kernel_rfl⟩, ?_⟩ | refine ⟨⟨by kernel_rfl, by kernel_rfl, by kernel_rfl, by kernel_rfl, by kernel_rfl, by kernel_rfl, by kernel_rfl, by kernel_rfl, by kernel_rfl, by kernel_rfl, by kernel_rfl, by kernel_rfl, by kernel_rfl⟩, ?_⟩)
    refine onF_call hsum [] [144] [] ?_ ?_
    · simp (maxSteps := 2000000) only [okA, ↓okP, Nat.reduceAdd, Nat.reduceMul, Nat.reduceSub, Nat.reduceLT, Nat.reduceLeDiff, Nat.reduceEqDiff, Nat.reduceBEq, ↓reduceIte, reduceCtorEq]
    simp (maxSteps := 2000000) only [vcA, ↓vcP, ↓reduceIte, reduceCtorEq, Nat.reduceAdd, Nat.reduceMul, Nat.reduceSub, Nat.reduceLT, Nat.reduceLeDiff, Nat.reduceEqDiff, Nat.reduceBEq, Nat.reduceBNe, Nat.reduceGT, Nat.reduceDiv, Nat.reduceMod, Int.reduceAdd, Int.reduceSub, Int.reduceNeg, Int.reduceLT, Int.reduceLE, Int.reduceEq, Int.reduceToNat, fA, uS, uT, hll]
    try repeat (first | refine ⟨by kernel_rfl, ?_⟩ | refine ⟨⟨by kernel_rfl, by kernel_rfl⟩, ?_⟩ | refine ⟨⟨by kernel_rfl, by kernel_rfl, by kernel_rfl⟩, ?_⟩ | refine ⟨⟨by kernel_rfl, by kernel_rfl, by kernel_rfl, by kernel_rfl⟩, ?_⟩ | refine ⟨⟨by kernel_rfl, by kernel_rfl, by kernel_rfl, by kernel_rfl, by kernel_rfl⟩, ?_⟩ | refine ⟨⟨by kernel_rfl, by kernel_rfl, by kernel_rfl, by kernel_rfl, by kernel_rfl, by kernel_rfl⟩, ?_⟩ | refine ⟨⟨by kernel_rfl, by kernel_rfl, by kernel_rfl, by kernel_rfl, by kernel_rfl, by kernel_rfl, by kernel_rfl⟩, ?_⟩ | refine ⟨⟨by kernel_rfl, by kernel_rfl, by kernel_rfl, by kernel_rfl, by kernel_rfl, by kernel_rfl, by kernel_rfl, by kernel_rfl⟩, ?_⟩ | refine ⟨⟨by kernel_rfl, by kernel_rfl, by kernel_rfl, by kernel_rfl, by kernel_rfl, by kernel_rfl, by kernel_rfl, by kernel_rfl, by kernel_rfl⟩, ?_⟩ | refine ⟨⟨by kernel_rfl, by kernel_rfl, by kernel_rfl, by kernel_rfl, by kernel_rfl, by kernel_rfl, by kernel_rfl, by kernel_rfl, by kernel_rfl, by kernel_rfl⟩, ?_⟩ | refine ⟨⟨by kernel_rfl, by kernel_rfl, by kernel_rfl, by kernel_rfl, by kernel_rfl, by kernel_rfl, by kernel_rfl, by kernel_rfl, by kernel_rfl, by kernel_rfl, by kernel_rfl⟩, ?_⟩ | refine ⟨⟨by kernel_rfl, by kernel_rfl, by kernel_rfl, by kernel_rfl, by kernel_rfl, by kernel_rfl, by kernel_rfl, by kernel_rfl, by kernel_rfl, by kernel_rfl, by kernel_rfl, by kernel_rfl⟩, ?_⟩ | refine ⟨⟨by kernel_rfl, by kernel_rfl, by kernel_rfl, by kernel_rfl, by kernel_rfl, by kernel_rfl, by kernel_rfl, by kernel_rfl, by kernel_rfl, by kernel_rfl, by kernel_rfl, by kernel_rfl, by kernel_rfl⟩, ?_⟩)
    refine ⟨⟨by omega, by simp only [maxLen]; omega⟩, fun _ => ?_⟩
    try repeat (first | refine ⟨by kernel_rfl, ?_⟩ | refine ⟨⟨by kernel_rfl, by kernel_rfl⟩, ?_⟩ | refine ⟨⟨by kernel_rfl, by kernel_rfl, by kernel_rfl⟩, ?_⟩ | refine ⟨⟨by kernel_rfl, by kernel_rfl, by kernel_rfl, by kernel_rfl⟩, ?_⟩ | refine ⟨⟨by kernel_rfl, by kernel_rfl, by kernel_rfl, by kernel_rfl, by kernel_rfl⟩, ?_⟩ | refine ⟨⟨by kernel_rfl, by kernel_rfl, by kernel_rfl, by kernel_rfl, by kernel_rfl, by kernel_rfl⟩, ?_⟩ | refine ⟨⟨by kernel_rfl, by kernel_rfl, by kernel_rfl, by kernel_rfl, by kernel_rfl, by kernel_rfl, by kernel_rfl⟩, ?_⟩ | refine ⟨⟨by kernel_rfl, by kernel_rfl, by kernel_rfl, by kernel_rfl, by kernel_rfl, by kernel_rfl, by kernel_rfl, by kernel_rfl⟩, ?_⟩ | refine ⟨⟨by kernel_rfl, by kernel_rfl, by kernel_rfl, by kernel_rfl, by kernel_rfl, by kernel_rfl, by kernel_rfl, by kernel_rfl, by kernel_rfl⟩, ?_⟩ | refine ⟨⟨by kernel_rfl, by kernel_rfl, by kernel_rfl, by kernel_rfl, by kernel_rfl, by kernel_rfl, by kernel_rfl, by kernel_rfl, by kernel_rfl, by kernel_rfl⟩, ?_⟩ | refine ⟨⟨by kernel_rfl, by kernel_rfl, by kernel_rfl, by kernel_rfl, by kernel_rfl, by kernel_rfl, by kernel_rfl, by kernel_rfl, by kernel_rfl, by kernel_rfl, by kernel_rfl⟩, ?_⟩ | refine ⟨⟨by kernel_rfl, by kernel_rfl, by kernel_rfl, by kernel_rfl, by kernel_rfl, by kernel_rfl, by kernel_rfl, by kernel_rfl, by kernel_rfl, by kernel_rfl, by kernel_rfl, by kernel_rfl⟩, ?_⟩ | refine ⟨⟨by kernel_rfl, by kernel_rfl, by kernel_rfl, by kernel_rfl, by kernel_rfl, by kernel_rfl, by kernel_rfl, by kernel_rfl, by kernel_rfl, by kernel_rfl, by kernel_rfl, by kernel_rfl, by kernel_rfl⟩, ?_⟩)
    refine hR _ (fin_of1 [some 288] ?_)
    rw [pl]
    unfold packB
    simp only [List.map_append, List.map_cons, List.map_nil]
    simp (maxSteps := 2000000) only [enA, ↓enP, Nat.reduceAdd, Nat.reduceMul, Nat.reduceSub, Nat.reduceLT, Nat.reduceLeDiff, Nat.reduceEqDiff, Nat.reduceBEq, ↓reduceIte, reduceCtorEq, fA]
    try rfl
end Go.Proofs.YtciegkpjenjaeaaDoor.Ab.T13
namespace Go.Proofs.YtciegkpjenjaeaaDoor.Ab.T13
open Go Go.RowKit
set_option linter.unusedVariables false
set_option linter.unusedSimpArgs false
theorem sm_two {f g : Nat → Int} {i q : Nat} : ∀ {n : Nat}, (∀ j, j < n → j ≠ i → j ≠ q → f j = g j) → sm f n - sm g n = (if i < n then f i - g i else 0) + (if q < n ∧ q ≠ i then f q - g q else 0)
  | 0, _ => by simp [sm]
  | n + 1, h => by
    have ih := sm_two (f := f) (g := g) (i := i) (q := q) (n := n) fun j hj => h j (by omega)
    simp only [sm]
    by_cases hi : n = i
    · subst hi
      rw [if_neg (by omega)] at ih
      rw [if_pos (by omega)]
      by_cases hq : q < n ∧ q ≠ n
      · rw [if_pos hq] at ih
        rw [if_pos (by omega)]
        omega
      · rw [if_neg hq] at ih
        rw [if_neg (by omega)]
        omega
    · by_cases hq : n = q
      · subst hq
        rw [if_neg (show ¬ (n < n ∧ n ≠ i) by omega)] at ih
        rw [if_pos (show n < n + 1 ∧ n ≠ i by omega)]
        by_cases c : i < n
        · rw [if_pos c] at ih; rw [if_pos (by omega)]; omega
        · rw [if_neg c] at ih; rw [if_neg (by omega)]; omega
      · have := h n (by omega) hi hq
        have e1 : (i < n + 1) = (i < n) := propext ⟨fun _ => by omega, fun _ => by omega⟩
        have e2 : (q < n + 1 ∧ q ≠ i) = (q < n ∧ q ≠ i) := propext ⟨fun _ => by omega, fun _ => by omega⟩
        simp only [e1, e2]
        omega
theorem sm_congr {f g : Nat → Int} : ∀ {n : Nat}, (∀ j, j < n → f j = g j) → sm f n = sm g n
  | 0, _ => rfl
  | n + 1, h => by simp only [sm]; rw [sm_congr fun j hj => h j (by omega), h n (by omega)]
theorem prod_zero : ∀ i < 43, ∀ a < 48, (i + 1) * a % 251 = 0 → a = 0 := by decide +kernel
theorem diff_zero {m : Nat} {a : Int} (hm : m < 43) (ha : -48 < a ∧ a < 48) (h : ((m : Int) + 1) * a % 251 = 0) : a = 0 := by
  have key := prod_zero m hm a.natAbs (by omega)
  have h2 : (m + 1) * a.natAbs % 251 = 0 := by
    have hd : (251 : Int) ∣ ((m : Int) + 1) * a := Int.dvd_of_emod_eq_zero h
    have h3 : (251 : Int).natAbs ∣ (((m : Int) + 1) * a).natAbs := Int.natAbs_dvd_natAbs.2 hd
    rw [Int.natAbs_mul] at h3
    have e : ((m : Int) + 1).natAbs = m + 1 := by omega
    rw [e] at h3
    exact Nat.mod_eq_zero_of_dvd h3
  have := key h2
  omega
structure Seal (B : List Int) (N : Nat) : Prop where
  len : B.length = N + 2
  lo : 1 ≤ N
  hi : N ≤ 41
  zero : nth B 0 = (N : Int) - 1
  data : ∀ j, 1 ≤ j → j < N → 0 ≤ nth B j ∧ nth B j < 48
  one : nth B N = sm (nth B) N % 251
  two : nth B (N + 1) = sm (fun j => ((j : Int) + 1) * nth B j) N % 251
theorem sm_take1 {B : List Int} {N : Nat} : sm (f1 (B.take N)) N = sm (nth B) N := sm_congr fun j hj => nth_take hj
theorem sm_take2 {B : List Int} {N : Nat} : sm (f2 (B.take N)) N = sm (fun j => ((j : Int) + 1) * nth B j) N := sm_congr fun j hj => by unfold f2; rw [nth_take hj]
theorem sealed_iff {B : List Int} (hB : ∀ x ∈ B, By x) : sealed B = true ↔ Seal B (B.length - 2) := by
  constructor
  · intro h
    unfold sealed at h
    simp only [Bool.and_eq_true, beq_iff_eq, Bool.not_eq_true'] at h
    obtain ⟨hl, ⟨⟨h0, h1⟩, h2⟩, h3⟩ := h
    obtain ⟨l3, l43⟩ := long_len hl
    have il : (inB B).length = B.length - 2 := by unfold inB; rw [List.length_take]; omega
    refine ⟨by omega, by omega, by omega, by rw [h0]; omega, fun j j1 jN => ?_, ?_, ?_⟩
    · have hm : nth B j ∈ (inB B).drop 1 := by
        have e : ((inB B).drop 1)[j - 1]? = some (nth B j) := by
          rw [List.getElem?_drop, show 1 + (j - 1) = j by omega]
          unfold inB nth
          rw [List.getElem?_take, if_pos jN, List.getD_eq_getElem?_getD, List.getElem?_eq_getElem (by omega)]
          rfl
        exact List.mem_of_getElem? e
      rw [List.any_eq_false] at h1
      have := h1 _ hm
      have hb := hB _ (nth_mem (l := B) (i := j) (by omega))
      unfold high at this
      unfold By at hb
      simp at this
      omega
    · rw [h2]; unfold s1; rw [il]; unfold inB; rw [sm_take1]
    · rw [h3]; unfold s2; rw [il]; unfold inB; rw [sm_take2]
  · intro h
    obtain ⟨h0, h1, h2, h3, h4, h5, h6⟩ := h
    have il : (inB B).length = B.length - 2 := by unfold inB; rw [List.length_take]; omega
    unfold sealed
    simp only [Bool.and_eq_true, beq_iff_eq, Bool.not_eq_true']
    refine ⟨by unfold isLong betw; simp; omega, ⟨⟨by rw [h3]; omega, ?_⟩, ?_⟩, ?_⟩
    · rw [List.any_eq_false]
      intro x hx
      obtain ⟨j, hj⟩ := List.getElem?_of_mem hx
      rw [List.getElem?_drop] at hj
      unfold inB at hj
      rw [List.getElem?_take] at hj
      split at hj
      · rename_i hlt
        have e : nth B (1 + j) = x := by unfold nth; rw [List.getD_eq_getElem?_getD, hj]; rfl
        have := h4 (1 + j) (by omega) hlt
        unfold high
        simp
        omega
      · cases hj
    · rw [h5]; unfold s1; rw [il]; unfold inB; rw [sm_take1]
    · rw [h6]; unfold s2; rw [il]; unfold inB; rw [sm_take2]
/-- **The distance.** -/
theorem dist {X Y : List Int} {N i q : Nat} (hX : Seal X N) (hY : Seal Y N) (hag : ∀ j, j < N + 2 → j ≠ i → j ≠ q → nth X j = nth Y j) : ∀ j, j < N + 2 → nth X j = nth Y j := by
  -- it is enough that the data are alike
  have fin : (∀ j, j < N → nth X j = nth Y j) → ∀ j, j < N + 2 → nth X j = nth Y j := fun h j hj => by
    rcases Nat.lt_or_ge j N with c | c
    · exact h j c
    · rcases (show j = N ∨ j = N + 1 by omega) with rfl | rfl
      · rw [hX.one, hY.one, sm_congr h]
      · rw [hX.two, hY.two, sm_congr fun j hj => by rw [h j hj]]
  have bnd : ∀ j, j < N → -48 < nth X j - nth Y j ∧ nth X j - nth Y j < 48 := fun j hj => by
    rcases Nat.eq_zero_or_pos j with rfl | h
    · have := hX.zero; have := hY.zero; omega
    · have := hX.data j h hj; have := hY.data j h hj; omega
  have hi2 := hX.hi
  have t1 := sm_two (f := nth X) (g := nth Y) (i := i) (q := q) (n := N) fun j hj => hag j (by omega)
  have t2 := sm_two (f := fun j => ((j : Int) + 1) * nth X j) (g := fun j => ((j : Int) + 1) * nth Y j) (i := i) (q := q) (n := N) fun j hj h1 h2 => by rw [hag j (by omega) h1 h2]
  have m1 : ∀ j : Nat, ((j : Int) + 1) * nth X j - ((j : Int) + 1) * nth Y j = ((j : Int) + 1) * (nth X j - nth Y j) := fun j => by rw [Int.mul_sub]
  simp only [m1] at t2
  have one : N ≠ i → N ≠ q → (sm (nth X) N - sm (nth Y) N) % 251 = 0 := fun h1 h2 => by
    have := hag N (by omega) h1 h2
    rw [hX.one, hY.one] at this
    omega
  have two : N + 1 ≠ i → N + 1 ≠ q → (sm (fun j => ((j : Int) + 1) * nth X j) N - sm (fun j => ((j : Int) + 1) * nth Y j) N) % 251 = 0 := fun h1 h2 => by
    have := hag (N + 1) (by omega) h1 h2
    rw [hX.two, hY.two] at this
    omega
  refine fin fun j hj => ?_
  by_cases ji : j = i
  · subst ji
    rw [if_pos hj] at t1 t2
    have bj := bnd j hj
    by_cases cq : q < N ∧ q ≠ j
    · rw [if_pos cq] at t1 t2
      have bq := bnd q cq.1
      have o1 := one (by omega) (by omega)
      have o2 := two (by omega) (by omega)
      rw [t1] at o1
      rw [t2] at o2
      have e : nth X q - nth Y q = -(nth X j - nth Y j) := by omega
      rw [e] at o2
      have e2 : ((j : Int) + 1) * (nth X j - nth Y j) + ((q : Int) + 1) * -(nth X j - nth Y j) = ((j : Int) - q) * (nth X j - nth Y j) := by
        rw [Int.mul_neg, ← Int.sub_eq_add_neg, ← Int.sub_mul]
        congr 1
        omega
      rw [e2] at o2
      rcases Nat.lt_or_gt_of_ne cq.2 with c | c
      · have := diff_zero (m := j - q - 1) (a := nth X j - nth Y j) (by omega) bj (by rw [← o2]; congr 2; omega)
        omega
      · have := diff_zero (m := q - j - 1) (a := nth X j - nth Y j) (by omega) bj (by
          have e3 : (((q - j - 1 : Nat) : Int) + 1) * (nth X j - nth Y j) = -(((j : Int) - q) * (nth X j - nth Y j)) := by
            rw [← Int.neg_mul]
            congr 1
            omega
          rw [e3]
          omega)
        omega
    · rw [if_neg cq] at t1 t2
      rw [Int.add_zero] at t1 t2
      by_cases cN : q = N
      · have o2 := two (by omega) (by omega)
        rw [t2] at o2
        have := diff_zero (by omega) bj o2
        omega
      · have o1 := one (by omega) (by omega)
        rw [t1] at o1
        omega
  · by_cases jq : j = q
    · subst jq
      rw [if_pos (show j < N ∧ j ≠ i from ⟨hj, ji⟩)] at t1 t2
      have bj := bnd j hj
      by_cases ci : i < N
      · rw [if_pos ci] at t1 t2
        have bi := bnd i ci
        have o1 := one (by omega) (by omega)
        have o2 := two (by omega) (by omega)
        rw [t1] at o1
        rw [t2] at o2
        have e : nth X i - nth Y i = -(nth X j - nth Y j) := by omega
        rw [e] at o2
        have e2 : ((i : Int) + 1) * -(nth X j - nth Y j) + ((j : Int) + 1) * (nth X j - nth Y j) = ((j : Int) - i) * (nth X j - nth Y j) := by
          rw [Int.mul_neg, Int.add_comm, ← Int.sub_eq_add_neg, ← Int.sub_mul]
          congr 1
          omega
        rw [e2] at o2
        rcases Nat.lt_or_gt_of_ne ji with c | c
        · have := diff_zero (m := i - j - 1) (a := nth X j - nth Y j) (by omega) bj (by
            have e3 : (((i - j - 1 : Nat) : Int) + 1) * (nth X j - nth Y j) = -(((j : Int) - i) * (nth X j - nth Y j)) := by
              rw [← Int.neg_mul]
              congr 1
              omega
            rw [e3]
            omega)
          omega
        · have := diff_zero (m := j - i - 1) (a := nth X j - nth Y j) (by omega) bj (by rw [← o2]; congr 2; omega)
          omega
      · rw [if_neg ci, Int.zero_add] at t1 t2
        by_cases cN : i = N
        · have o2 := two (by omega) (by omega)
          rw [t2] at o2
          have := diff_zero (by omega) bj o2
          omega
        · have o1 := one (by omega) (by omega)
          rw [t1] at o1
          omega
    · exact hag j (by omega) ji jq
end Go.Proofs.YtciegkpjenjaeaaDoor.Ab.T13
