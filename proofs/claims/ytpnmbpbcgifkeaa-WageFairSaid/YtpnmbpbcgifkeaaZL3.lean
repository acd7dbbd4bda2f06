/- Fair shares: the walk. -/
import Derived.Test.YtpnmbpbcgifkeaaZLA
import Derived.Test.YtpnmbpbcgifkeaaZH3
namespace Go.Proofs.Ytpnmbpbcgifkeaa.Ab.T12
open Go Go.RowKit
set_option linter.unusedVariables false
set_option linter.unusedSimpArgs false
set_option maxRecDepth 100000
def u8R (n : Int) : List DV := [.v (.int .u8 n)]
def By (n : Int) : Prop := 0 ≤ n ∧ n < 256
def partB (bs : List Int) (j : Nat) : Int := if j < bs.length then 1 + nth bs j else 1
def partsT (bs : List Int) (i : Nat) : List Int := (List.range i).map (partB bs)
def handsN (bs : List Int) : Nat := max 1 (min 6 bs.length)
theorem partsT_len (bs : List Int) (i : Nat) : (partsT bs i).length = i := by simp [partsT]
theorem partsT_succ (bs : List Int) (i : Nat) : partsT bs (i + 1) = partsT bs i ++ [partB bs i] := by simp [partsT, List.range_succ]
theorem partsT_nth {bs : List Int} {i j : Nat} (h : j < i) : nth (partsT bs i) j = partB bs j := by
  unfold nth partsT
  simp [List.getD_eq_getElem?_getD, h]
theorem part_bd {bs : List Int} (hb : ∀ n ∈ bs, By n) (j : Nat) : 1 ≤ partB bs j ∧ partB bs j ≤ 256 := by
  unfold partB
  split
  · rename_i h
    have := hb _ (nth_mem h)
    unfold By at this
    omega
  · omega
theorem parts_ok {bs : List Int} (hb : ∀ n ∈ bs, By n) {m : Int} (hm : 0 ≤ m ∧ m ≤ 10000) : ShOk (partsT bs (handsN bs)) m := by
  refine ⟨by rw [partsT_len]; unfold handsN; omega, by rw [partsT_len]; unfold handsN; omega, fun n hn => ?_, hm⟩
  unfold partsT at hn
  obtain ⟨j, _, rfl⟩ := List.mem_map.1 hn
  exact part_bd hb j
set_option maxHeartbeats 8000000 in
theorem fair_spec (bs : List Int) (mo a b c : Int) (hbs : ∀ n ∈ bs, By n) (hmo : 0 ≤ mo ∧ mo < 65536) (ha : By a) (hb : By b) (hc : By c) : SpecF Try.prog 4 [.sl 1 (bs.map u8R), .v (.int .u16 mo), .agg [.v (.int .u8 a), .v (.int .u8 b), .v (.int .u8 c)]] (.v (.bool true)) [] := by
  unfold By at ha hb hc
  obtain ⟨m, hmd⟩ : ∃ m, m = mo % 9900 := ⟨_, rfl⟩
  have hm : 0 ≤ m ∧ m ≤ 9899 := by omega
  obtain ⟨H, hH⟩ : ∃ H, H = handsN bs := ⟨_, rfl⟩
  have hH1 : 1 ≤ H ∧ H ≤ 6 := by rw [hH]; unfold handsN; omega
  have hHb : H ≤ bs.length ∨ (H = 1 ∧ bs.length = 0) := by rw [hH]; unfold handsN; omega
  have hHc : H = 6 ∨ bs.length ≤ H := by rw [hH]; unfold handsN; omega
  obtain ⟨P, hPd⟩ : ∃ P, P = partsT bs H := ⟨_, rfl⟩
  have hPl : P.length = H := by rw [hPd]; exact partsT_len bs H
  have hok : ShOk P m := by rw [hPd, hH]; exact parts_ok hbs (by omega)
  subst hPl
  have hbt := hok.bt
  have w0 : IntKind.i64.wrap mo = mo := wrap_id (by omega) (by omega)
  have w1 : mo.tmod 9900 = m := by rw [Int.tmod_eq_emod_of_nonneg hmo.1, ← hmd]
  refine spec_go (N := 267) (rs := [.tmp 6]) (eq := eqs) rfl rfl fun_4 rfl (by kernel_rfl) (by kernel_rfl) (by simp) (by simp) (by simp) (by simp) fun R hR => ?_
  simp (maxSteps := 2000000) only [vcA, ↓vcP, ↓reduceIte, reduceCtorEq, Nat.reduceAdd, Nat.reduceMul, Nat.reduceSub, Nat.reduceLT, Nat.reduceLeDiff, Nat.reduceEqDiff, Nat.reduceBEq, Nat.reduceBNe, Nat.reduceGT, Nat.reduceDiv, Nat.reduceMod, Int.reduceAdd, Int.reduceSub, Int.reduceNeg, Int.reduceLT, Int.reduceLE, Int.reduceEq, Int.reduceToNat, fA, w0, w1]
  refine goC_loop (α := {i : Nat // i ≤ P.length}) (fun x => ⟨[(0, .sl 1 (bs.map u8R)), (5, .ptr 8 0), (7, .ob 88 x.1), (8, .v (.int .i64 (sumTo P x.1))), (9, .v (.int .i64 m)), (10, .v (.int .i64 x.1))], [(8, .box 44 [.v (.int .u8 a), .v (.int .u8 b), .v (.int .u8 c)]), (88, .row 3 1 ((P.take x.1).map iR) false)]⟩) (fun x => P.length - x.1) ⟨0, by omega⟩ [some 24] ?_ ?_
  · simp (maxSteps := 2000000) only [enA, ↓enP, Nat.reduceAdd, Nat.reduceMul, Nat.reduceSub, Nat.reduceLT, Nat.reduceLeDiff, Nat.reduceEqDiff, Nat.reduceBEq, ↓reduceIte, reduceCtorEq, fA, sumTo, w1]
    try simp
  intro x B hB
  obtain ⟨i, hi⟩ := x
  simp only at hB ⊢
  have sb := sumTo_bound hbt (i := i) (by omega)
  by_cases ci : i < P.length
  · have p1 : ((i : Int) < 6) = True := eq_true (by omega)
    have ei : IntKind.i64.wrap ((i : Int) + 1) = ((i + 1 : Nat) : Int) := wrap_id (by omega) (by omega)
    have eP : P.take (i + 1) = P.take i ++ [nth P i] := take_succ_nth (by omega)
    have ePn : nth P i = partB bs i := by rw [hPd]; exact partsT_nth ci
    have pb := part_bd hbs i
    have es : IntKind.i64.wrap (sumTo P i + partB bs i) = sumTo P (i + 1) := by
      rw [wrap_id (by omega) (by omega)]
      simp only [sumTo]
      rw [ePn]
    have lt : (P.take i).length = i := by rw [List.length_take]; omega
    by_cases c1 : i < bs.length
    · have q1 : ((i : Int) < (bs.length : Int)) = True := eq_true (by omega)
      have q1' : (i < bs.length) = True := eq_true c1
      have hby := hbs _ (nth_mem c1)
      unfold By at hby
      have v1 : IntKind.i64.wrap (nth bs i) = nth bs i := wrap_id (by omega) (by omega)
      have v2 : IntKind.i64.wrap (1 + nth bs i) = partB bs i := by rw [wrap_id (by omega) (by omega)]; unfold partB; rw [if_pos c1]
      by_cases i0 : i = 0
      · have q0 : ((i : Int) == 0) = true := by rw [i0]; rfl
        simp (maxSteps := 2000000) only [vcA, ↓vcP, ↓reduceIte, reduceCtorEq, Nat.reduceAdd, Nat.reduceMul, Nat.reduceSub, Nat.reduceLT, Nat.reduceLeDiff, Nat.reduceEqDiff, Nat.reduceBEq, Nat.reduceBNe, Nat.reduceGT, Nat.reduceDiv, Nat.reduceMod, Int.reduceAdd, Int.reduceSub, Int.reduceNeg, Int.reduceLT, Int.reduceLE, Int.reduceEq, Int.reduceToNat, fA, p1, q1, q1', q0, u8R, v1, v2, es]
        refine ⟨⟨by omega, by simp only [maxLen]; omega⟩, fun _ => ?_⟩
        refine hB _ ⟨i + 1, by omega⟩ [some 344] (by simp only; omega) rfl ?_
        simp (maxSteps := 2000000) only [enA, ↓enP, Nat.reduceAdd, Nat.reduceMul, Nat.reduceSub, Nat.reduceLT, Nat.reduceLeDiff, Nat.reduceEqDiff, Nat.reduceBEq, ↓reduceIte, reduceCtorEq, fA, ei, es, eP, ePn, lt, List.map_append]
        try rfl
      · have q0 : ((i : Int) == 0) = false := by rw [beq_eq_false_iff_ne]; omega
        simp (maxSteps := 2000000) only [vcA, ↓vcP, ↓reduceIte, reduceCtorEq, Nat.reduceAdd, Nat.reduceMul, Nat.reduceSub, Nat.reduceLT, Nat.reduceLeDiff, Nat.reduceEqDiff, Nat.reduceBEq, Nat.reduceBNe, Nat.reduceGT, Nat.reduceDiv, Nat.reduceMod, Int.reduceAdd, Int.reduceSub, Int.reduceNeg, Int.reduceLT, Int.reduceLE, Int.reduceEq, Int.reduceToNat, fA, p1, q1, q1', q0, u8R, v1, v2, es]
        refine ⟨⟨by omega, by simp only [maxLen]; omega⟩, fun _ => ?_⟩
        refine hB _ ⟨i + 1, by omega⟩ [some 344] (by simp only; omega) rfl ?_
        simp (maxSteps := 2000000) only [enA, ↓enP, Nat.reduceAdd, Nat.reduceMul, Nat.reduceSub, Nat.reduceLT, Nat.reduceLeDiff, Nat.reduceEqDiff, Nat.reduceBEq, ↓reduceIte, reduceCtorEq, fA, ei, es, eP, ePn, lt, List.map_append]
        try rfl
    · have i0 : i = 0 := by omega
      have q0 : ((i : Int) == 0) = true := by rw [i0]; rfl
      have q1 : ((i : Int) < (bs.length : Int)) = False := eq_false (by omega)
      have q1' : (i < bs.length) = False := eq_false c1
      have v2 : partB bs i = 1 := by unfold partB; rw [if_neg c1]
      rw [v2] at es ePn
      simp (maxSteps := 2000000) only [vcA, ↓vcP, ↓reduceIte, reduceCtorEq, Nat.reduceAdd, Nat.reduceMul, Nat.reduceSub, Nat.reduceLT, Nat.reduceLeDiff, Nat.reduceEqDiff, Nat.reduceBEq, Nat.reduceBNe, Nat.reduceGT, Nat.reduceDiv, Nat.reduceMod, Int.reduceAdd, Int.reduceSub, Int.reduceNeg, Int.reduceLT, Int.reduceLE, Int.reduceEq, Int.reduceToNat, fA, p1, q1, q1', q0, es]
      refine ⟨⟨by omega, by simp only [maxLen]; omega⟩, fun _ => ?_⟩
      refine hB _ ⟨i + 1, by omega⟩ [some 280] (by simp only; omega) rfl ?_
      simp (maxSteps := 2000000) only [enA, ↓enP, Nat.reduceAdd, Nat.reduceMul, Nat.reduceSub, Nat.reduceLT, Nat.reduceLeDiff, Nat.reduceEqDiff, Nat.reduceBEq, ↓reduceIte, reduceCtorEq, fA, ei, es, eP, ePn, lt, List.map_append]
      try rfl
  obtain rfl : i = P.length := by omega
  have e6 : P.take P.length = P := List.take_length
  rw [e6]
  obtain ⟨m2, hm2⟩ : ∃ m2, m2 = m + c % 100 := ⟨_, rfl⟩
  have hm2b : m ≤ m2 ∧ m2 ≤ 10000 := by omega
  have hok2 : ShOk P m2 := ⟨hok.n0, hok.n6, hok.ok, by omega⟩
  obtain ⟨hE1, hE2⟩ := shareErr0 hok.n0 hok.n6 hbt (m := m) (by omega)
  obtain ⟨hF1, hF2⟩ := shareErr0 hok.n0 hok.n6 hbt (m := m2) (by omega)
  have sl1 : (shareTo P m P.length).length = P.length := shareTo_length P m _
  have sl2 : (shareTo P m2 P.length).length = P.length := shareTo_length P m2 _
  have g1 : ((0 : Int) != 0) = false := rfl
  have g0 : ((0 : Int) == 0) = true := rfl
  have bne : ∀ n : Int, (n != n) = false := fun n => by simp
  have be : ∀ n : Int, (n == n) = true := fun n => by simp
  have z2 : IntKind.i64.wrap c = c := wrap_id (by omega) (by omega)
  have z3 : c.tmod 100 = c % 100 := Int.tmod_eq_emod_of_nonneg hc.1
  have z4 : IntKind.i64.wrap (m + c % 100) = m2 := by rw [← hm2]; exact wrap_id (by omega) (by omega)
  by_cases c6 : P.length < 6
  · have p1 : ((P.length : Int) < 6) = True := eq_true (by omega)
    have q0 : ((P.length : Int) == 0) = false := by rw [beq_eq_false_iff_ne]; omega
    have q1 : ((P.length : Int) < (bs.length : Int)) = False := eq_false (by omega)
    have q1' : (P.length < bs.length) = False := eq_false (by omega)
    simp (maxSteps := 2000000) only [vcA, ↓vcP, ↓reduceIte, reduceCtorEq, Nat.reduceAdd, Nat.reduceMul, Nat.reduceSub, Nat.reduceLT, Nat.reduceLeDiff, Nat.reduceEqDiff, Nat.reduceBEq, Nat.reduceBNe, Nat.reduceGT, Nat.reduceDiv, Nat.reduceMod, Int.reduceAdd, Int.reduceSub, Int.reduceNeg, Int.reduceLT, Int.reduceLE, Int.reduceEq, Int.reduceToNat, fA, p1, q0, q1, q1']
    refine ⟨⟨by omega, by simp only [maxLen]; omega⟩, fun _ => ?_⟩
    repeat (first | refine ⟨by kernel_rfl, ?_⟩ | refine ⟨⟨by kernel_rfl, by kernel_rfl⟩, ?_⟩ | refine ⟨⟨by kernel_rfl, by kernel_rfl, by kernel_rfl⟩, ?_⟩ | refine ⟨⟨by kernel_rfl, by kernel_rfl, by kernel_rfl, by kernel_rfl⟩, ?_⟩ | refine ⟨⟨by kernel_rfl, by kernel_rfl, by kernel_rfl, by kernel_rfl, by kernel_rfl⟩, ?_⟩ | refine ⟨⟨by kernel_rfl, by kernel_rfl, by kernel_rfl, by kernel_rfl, by kernel_rfl, by kernel_rfl⟩, ?_⟩ | refine ⟨⟨by kernel_rfl, by kernel_rfl, by kernel_rfl, by kernel_rfl, by kernel_rfl, by kernel_rfl, by kernel_rfl⟩, ?_⟩ | refine ⟨⟨by kernel_rfl, by kernel_rfl, by kernel_rfl, by kernel_rfl, by kernel_rfl, by kernel_rfl, by kernel_rfl, by kernel_rfl⟩, ?_⟩ | refine ⟨⟨by kernel_rfl, by kernel_rfl, by kernel_rfl, by kernel_rfl, by kernel_rfl, by kernel_rfl, by kernel_rfl, by kernel_rfl, by kernel_rfl⟩, ?_⟩ | refine ⟨⟨by kernel_rfl, by kernel_rfl, by kernel_rfl, by kernel_rfl, by kernel_rfl, by kernel_rfl, by kernel_rfl, by kernel_rfl, by kernel_rfl, by kernel_rfl⟩, ?_⟩ | refine ⟨⟨by kernel_rfl, by kernel_rfl, by kernel_rfl, by kernel_rfl, by kernel_rfl, by kernel_rfl, by kernel_rfl, by kernel_rfl, by kernel_rfl, by kernel_rfl, by kernel_rfl⟩, ?_⟩ | refine ⟨⟨by kernel_rfl, by kernel_rfl, by kernel_rfl, by kernel_rfl, by kernel_rfl, by kernel_rfl, by kernel_rfl, by kernel_rfl, by kernel_rfl, by kernel_rfl, by kernel_rfl, by kernel_rfl⟩, ?_⟩ | refine ⟨⟨by kernel_rfl, by kernel_rfl, by kernel_rfl, by kernel_rfl, by kernel_rfl, by kernel_rfl, by kernel_rfl, by kernel_rfl, by kernel_rfl, by kernel_rfl, by kernel_rfl, by kernel_rfl, by kernel_rfl⟩, ?_⟩)
    refine onF_call (shareF_spec P m (by omega)) [232] [] [] ?_ ?_
    · simp (maxSteps := 2000000) only [okA, ↓okP, Nat.reduceAdd, Nat.reduceMul, Nat.reduceSub, Nat.reduceLT, Nat.reduceLeDiff, Nat.reduceEqDiff, Nat.reduceBEq, ↓reduceIte, reduceCtorEq, iR]
    rw [hE1, hE2]
    simp (maxSteps := 2000000) only [vcA, ↓vcP, ↓reduceIte, reduceCtorEq, Nat.reduceAdd, Nat.reduceMul, Nat.reduceSub, Nat.reduceLT, Nat.reduceLeDiff, Nat.reduceEqDiff, Nat.reduceBEq, Nat.reduceBNe, Nat.reduceGT, Nat.reduceDiv, Nat.reduceMod, Int.reduceAdd, Int.reduceSub, Int.reduceNeg, Int.reduceLT, Int.reduceLE, Int.reduceEq, Int.reduceToNat, fA]
    refine ⟨⟨by omega, by simp only [maxLen]; omega⟩, fun _ => ?_⟩
    try repeat (first | refine ⟨by kernel_rfl, ?_⟩ | refine ⟨⟨by kernel_rfl, by kernel_rfl⟩, ?_⟩ | refine ⟨⟨by kernel_rfl, by kernel_rfl, by kernel_rfl⟩, ?_⟩ | refine ⟨⟨by kernel_rfl, by kernel_rfl, by kernel_rfl, by kernel_rfl⟩, ?_⟩ | refine ⟨⟨by kernel_rfl, by kernel_rfl, by kernel_rfl, by kernel_rfl, by kernel_rfl⟩, ?_⟩ | refine ⟨⟨by kernel_rfl, by kernel_rfl, by kernel_rfl, by kernel_rfl, by kernel_rfl, by kernel_rfl⟩, ?_⟩ | refine ⟨⟨by kernel_rfl, by kernel_rfl, by kernel_rfl, by kernel_rfl, by kernel_rfl, by kernel_rfl, by kernel_rfl⟩, ?_⟩ | refine ⟨⟨by kernel_rfl, by kernel_rfl, by kernel_rfl, by kernel_rfl, by kernel_rfl, by kernel_rfl, by kernel_rfl, by kernel_rfl⟩, ?_⟩ | refine ⟨⟨by kernel_rfl, by kernel_rfl, by kernel_rfl, by kernel_rfl, by kernel_rfl, by kernel_rfl, by kernel_rfl, by kernel_rfl, by kernel_rfl⟩, ?_⟩ | refine ⟨⟨by kernel_rfl, by kernel_rfl, by kernel_rfl, by kernel_rfl, by kernel_rfl, by kernel_rfl, by kernel_rfl, by kernel_rfl, by kernel_rfl, by kernel_rfl⟩, ?_⟩ | refine ⟨⟨by kernel_rfl, by kernel_rfl, by kernel_rfl, by kernel_rfl, by kernel_rfl, by kernel_rfl, by kernel_rfl, by kernel_rfl, by kernel_rfl, by kernel_rfl, by kernel_rfl⟩, ?_⟩ | refine ⟨⟨by kernel_rfl, by kernel_rfl, by kernel_rfl, by kernel_rfl, by kernel_rfl, by kernel_rfl, by kernel_rfl, by kernel_rfl, by kernel_rfl, by kernel_rfl, by kernel_rfl, by kernel_rfl⟩, ?_⟩ | refine ⟨⟨by kernel_rfl, by kernel_rfl, by kernel_rfl, by kernel_rfl, by kernel_rfl, by kernel_rfl, by kernel_rfl, by kernel_rfl, by kernel_rfl, by kernel_rfl, by kernel_rfl, by kernel_rfl, by kernel_rfl⟩, ?_⟩)
    simp (maxSteps := 2000000) only [vcA, ↓vcP, ↓reduceIte, reduceCtorEq, Nat.reduceAdd, Nat.reduceMul, Nat.reduceSub, Nat.reduceLT, Nat.reduceLeDiff, Nat.reduceEqDiff, Nat.reduceBEq, Nat.reduceBNe, Nat.reduceGT, Nat.reduceDiv, Nat.reduceMod, Int.reduceAdd, Int.reduceSub, Int.reduceNeg, Int.reduceLT, Int.reduceLE, Int.reduceEq, Int.reduceToNat, fA, z2, z3, z4]
    try repeat (first | refine ⟨by kernel_rfl, ?_⟩ | refine ⟨⟨by kernel_rfl, by kernel_rfl⟩, ?_⟩ | refine ⟨⟨by kernel_rfl, by kernel_rfl, by kernel_rfl⟩, ?_⟩ | refine ⟨⟨by kernel_rfl, by kernel_rfl, by kernel_rfl, by kernel_rfl⟩, ?_⟩ | refine ⟨⟨by kernel_rfl, by kernel_rfl, by kernel_rfl, by kernel_rfl, by kernel_rfl⟩, ?_⟩ | refine ⟨⟨by kernel_rfl, by kernel_rfl, by kernel_rfl, by kernel_rfl, by kernel_rfl, by kernel_rfl⟩, ?_⟩ | refine ⟨⟨by kernel_rfl, by kernel_rfl, by kernel_rfl, by kernel_rfl, by kernel_rfl, by kernel_rfl, by kernel_rfl⟩, ?_⟩ | refine ⟨⟨by kernel_rfl, by kernel_rfl, by kernel_rfl, by kernel_rfl, by kernel_rfl, by kernel_rfl, by kernel_rfl, by kernel_rfl⟩, ?_⟩ | refine ⟨⟨by kernel_rfl, by kernel_rfl, by kernel_rfl, by kernel_rfl, by kernel_rfl, by kernel_rfl, by kernel_rfl, by kernel_rfl, by kernel_rfl⟩, ?_⟩ | refine ⟨⟨by kernel_rfl, by kernel_rfl, by kernel_rfl, by kernel_rfl, by kernel_rfl, by kernel_rfl, by kernel_rfl, by kernel_rfl, by kernel_rfl, by kernel_rfl⟩, ?_⟩ | refine ⟨⟨by kernel_rfl, by kernel_rfl, by kernel_rfl, by kernel_rfl, by kernel_rfl, by kernel_rfl, by kernel_rfl, by kernel_rfl, by kernel_rfl, by kernel_rfl, by kernel_rfl⟩, ?_⟩ | refine ⟨⟨by kernel_rfl, by kernel_rfl, by kernel_rfl, by kernel_rfl, by kernel_rfl, by kernel_rfl, by kernel_rfl, by kernel_rfl, by kernel_rfl, by kernel_rfl, by kernel_rfl, by kernel_rfl⟩, ?_⟩ | refine ⟨⟨by kernel_rfl, by kernel_rfl, by kernel_rfl, by kernel_rfl, by kernel_rfl, by kernel_rfl, by kernel_rfl, by kernel_rfl, by kernel_rfl, by kernel_rfl, by kernel_rfl, by kernel_rfl, by kernel_rfl⟩, ?_⟩)
    refine onF_call (shareF_spec P m2 (by omega)) [312] [] [] ?_ ?_
    · simp (maxSteps := 2000000) only [okA, ↓okP, Nat.reduceAdd, Nat.reduceMul, Nat.reduceSub, Nat.reduceLT, Nat.reduceLeDiff, Nat.reduceEqDiff, Nat.reduceBEq, ↓reduceIte, reduceCtorEq, iR]
    rw [hF1, hF2]
    simp (maxSteps := 2000000) only [vcA, ↓vcP, ↓reduceIte, reduceCtorEq, Nat.reduceAdd, Nat.reduceMul, Nat.reduceSub, Nat.reduceLT, Nat.reduceLeDiff, Nat.reduceEqDiff, Nat.reduceBEq, Nat.reduceBNe, Nat.reduceGT, Nat.reduceDiv, Nat.reduceMod, Int.reduceAdd, Int.reduceSub, Int.reduceNeg, Int.reduceLT, Int.reduceLE, Int.reduceEq, Int.reduceToNat, fA, sl1, sl2, g1, bne]
    try repeat (first | refine ⟨by kernel_rfl, ?_⟩ | refine ⟨⟨by kernel_rfl, by kernel_rfl⟩, ?_⟩ | refine ⟨⟨by kernel_rfl, by kernel_rfl, by kernel_rfl⟩, ?_⟩ | refine ⟨⟨by kernel_rfl, by kernel_rfl, by kernel_rfl, by kernel_rfl⟩, ?_⟩ | refine ⟨⟨by kernel_rfl, by kernel_rfl, by kernel_rfl, by kernel_rfl, by kernel_rfl⟩, ?_⟩ | refine ⟨⟨by kernel_rfl, by kernel_rfl, by kernel_rfl, by kernel_rfl, by kernel_rfl, by kernel_rfl⟩, ?_⟩ | refine ⟨⟨by kernel_rfl, by kernel_rfl, by kernel_rfl, by kernel_rfl, by kernel_rfl, by kernel_rfl, by kernel_rfl⟩, ?_⟩ | refine ⟨⟨by kernel_rfl, by kernel_rfl, by kernel_rfl, by kernel_rfl, by kernel_rfl, by kernel_rfl, by kernel_rfl, by kernel_rfl⟩, ?_⟩ | refine ⟨⟨by kernel_rfl, by kernel_rfl, by kernel_rfl, by kernel_rfl, by kernel_rfl, by kernel_rfl, by kernel_rfl, by kernel_rfl, by kernel_rfl⟩, ?_⟩ | refine ⟨⟨by kernel_rfl, by kernel_rfl, by kernel_rfl, by kernel_rfl, by kernel_rfl, by kernel_rfl, by kernel_rfl, by kernel_rfl, by kernel_rfl, by kernel_rfl⟩, ?_⟩ | refine ⟨⟨by kernel_rfl, by kernel_rfl, by kernel_rfl, by kernel_rfl, by kernel_rfl, by kernel_rfl, by kernel_rfl, by kernel_rfl, by kernel_rfl, by kernel_rfl, by kernel_rfl⟩, ?_⟩ | refine ⟨⟨by kernel_rfl, by kernel_rfl, by kernel_rfl, by kernel_rfl, by kernel_rfl, by kernel_rfl, by kernel_rfl, by kernel_rfl, by kernel_rfl, by kernel_rfl, by kernel_rfl, by kernel_rfl⟩, ?_⟩ | refine ⟨⟨by kernel_rfl, by kernel_rfl, by kernel_rfl, by kernel_rfl, by kernel_rfl, by kernel_rfl, by kernel_rfl, by kernel_rfl, by kernel_rfl, by kernel_rfl, by kernel_rfl, by kernel_rfl, by kernel_rfl⟩, ?_⟩)
    try simp (maxSteps := 2000000) only [vcA, ↓vcP, ↓reduceIte, reduceCtorEq, Nat.reduceAdd, Nat.reduceMul, Nat.reduceSub, Nat.reduceLT, Nat.reduceLeDiff, Nat.reduceEqDiff, Nat.reduceBEq, Nat.reduceBNe, Nat.reduceGT, Nat.reduceDiv, Nat.reduceMod, Int.reduceAdd, Int.reduceSub, Int.reduceNeg, Int.reduceLT, Int.reduceLE, Int.reduceEq, Int.reduceToNat, fA, sl1, sl2, g1, bne]
    refine goC_loop (α := {q : Nat // q ≤ P.length}) (fun x => ⟨[(5, .ptr 8 0), (7, .ob 88 P.length), (8, .v (.int .i64 (sumTo P P.length))), (9, .v (.int .i64 m)), (12, .sl 1 ((shareTo P m P.length).map iR)), (14, .sl 1 ((shareTo P m2 P.length).map iR)), (16, .v (.int .i64 (firstS P m x.1))), (17, .v (.int .i64 (firstS P m2 x.1))), (18, .v (.int .i64 x.1))], [(8, .box 44 [.v (.int .u8 a), .v (.int .u8 b), .v (.int .u8 c)]), (88, .row 3 1 (P.map iR) false)]⟩) (fun x => P.length - x.1) ⟨0, by omega⟩ [] ?_ ?_
    · have e0 : firstS P m 0 = 0 := by simp [firstS, sumTo]
      have e0' : firstS P m2 0 = 0 := by simp [firstS, sumTo]
      simp (maxSteps := 2000000) only [enA, ↓enP, Nat.reduceAdd, Nat.reduceMul, Nat.reduceSub, Nat.reduceLT, Nat.reduceLeDiff, Nat.reduceEqDiff, Nat.reduceBEq, ↓reduceIte, reduceCtorEq, fA, e0, e0']
      try rfl
    intro x B2 hB2
    obtain ⟨q, hq⟩ := x
    simp only at hB2 ⊢
    by_cases cq : q < P.length
    · have r1 : ((q : Int) < (P.length : Int)) = True := eq_true (by omega)
      have r1' : (q < P.length) = True := eq_true cq
      have r2' : (q < P.length) = True := eq_true (by omega)
      have eq' : IntKind.i64.wrap ((q : Int) + 1) = ((q + 1 : Nat) : Int) := wrap_id (by omega) (by omega)
      have n1 : nth (shareTo P m P.length) q = shareAt P m q := nth_share (by omega)
      have n2 : nth (shareTo P m2 P.length) q = shareAt P m2 q := nth_share (by omega)
      obtain ⟨k1, k2, k3, k4⟩ := share_near hok (i := q) (by omega)
      obtain ⟨k1', k2', _, _⟩ := share_near hok2 (i := q) (by omega)
      obtain ⟨A1, A2⟩ := sum_all hok
      have pq := hok.ok _ (nth_mem (l := P) (i := q) (by omega))
      have b1 := mul_bound (a := m) (b := nth P q) (m := 10000) (k := 256) (by omega) (by omega)
      have b2 := mul_bound (a := shareAt P m q + 1) (b := sumTo P P.length) (m := 10001) (k := 1536) (by omega) (by omega)
      have f1 := firstS_bd hok (i := q) (by omega)
      have f1' := firstS_bd hok (i := q + 1) (by omega)
      have f2 := firstS_bd hok2 (i := q) (by omega)
      have f2' := firstS_bd hok2 (i := q + 1) (by omega)
      have fm := firstS_mono hok hm2b.1 (i := q + 1) (by omega)
      have s1 : (shareAt P m q < 0) = False := eq_false (by omega)
      have s2 : (shareAt P m q > m) = False := eq_false (by omega)
      have u1 : IntKind.i64.wrap (shareAt P m q + 1) = shareAt P m q + 1 := wrap_id (by omega) (by omega)
      have u2 : IntKind.i64.wrap ((shareAt P m q + 1) * sumTo P P.length) = (shareAt P m q + 1) * sumTo P P.length := wrap_id (by omega) (by omega)
      have u3 : IntKind.i64.wrap (m * nth P q) = m * nth P q := wrap_id (by omega) (by omega)
      have s3 : ((shareAt P m q + 1) * sumTo P P.length ≤ m * nth P q) = False := eq_false (by omega)
      have u4 : IntKind.i64.wrap (shareAt P m q - 1) = shareAt P m q - 1 := wrap_id (by omega) (by omega)
      have b3 : -1536 ≤ (shareAt P m q - 1) * sumTo P P.length := by
        have := mul_bound (a := shareAt P m q) (b := sumTo P P.length) (m := 10001) (k := 1536) (by omega) (by omega)
        rw [Int.sub_mul, Int.one_mul]
        omega
      have u5 : IntKind.i64.wrap ((shareAt P m q - 1) * sumTo P P.length) = (shareAt P m q - 1) * sumTo P P.length := wrap_id (by omega) (by omega)
      have s4 : ((shareAt P m q - 1) * sumTo P P.length ≥ m * nth P q) = False := eq_false (by omega)
      have u6 : IntKind.i64.wrap (firstS P m q + shareAt P m q) = firstS P m (q + 1) := by rw [shareAt_eq, wrap_id (by omega) (by omega)]; omega
      have u7 : IntKind.i64.wrap (firstS P m2 q + shareAt P m2 q) = firstS P m2 (q + 1) := by rw [shareAt_eq, wrap_id (by omega) (by omega)]; omega
      have s5 : (firstS P m2 (q + 1) < firstS P m (q + 1)) = False := eq_false (by omega)
      simp (maxSteps := 2000000) only [vcA, ↓vcP, ↓reduceIte, reduceCtorEq, Nat.reduceAdd, Nat.reduceMul, Nat.reduceSub, Nat.reduceLT, Nat.reduceLeDiff, Nat.reduceEqDiff, Nat.reduceBEq, Nat.reduceBNe, Nat.reduceGT, Nat.reduceDiv, Nat.reduceMod, Int.reduceAdd, Int.reduceSub, Int.reduceNeg, Int.reduceLT, Int.reduceLE, Int.reduceEq, Int.reduceToNat, fA, r1, r1', r2', n1, n2, sl1, sl2, iR, s1, s2, s3, s4, s5, u1, u2, u3, u4, u5, u6, u7]
      try repeat (first | refine ⟨by kernel_rfl, ?_⟩ | refine ⟨⟨by kernel_rfl, by kernel_rfl⟩, ?_⟩ | refine ⟨⟨by kernel_rfl, by kernel_rfl, by kernel_rfl⟩, ?_⟩ | refine ⟨⟨by kernel_rfl, by kernel_rfl, by kernel_rfl, by kernel_rfl⟩, ?_⟩ | refine ⟨⟨by kernel_rfl, by kernel_rfl, by kernel_rfl, by kernel_rfl, by kernel_rfl⟩, ?_⟩ | refine ⟨⟨by kernel_rfl, by kernel_rfl, by kernel_rfl, by kernel_rfl, by kernel_rfl, by kernel_rfl⟩, ?_⟩ | refine ⟨⟨by kernel_rfl, by kernel_rfl, by kernel_rfl, by kernel_rfl, by kernel_rfl, by kernel_rfl, by kernel_rfl⟩, ?_⟩ | refine ⟨⟨by kernel_rfl, by kernel_rfl, by kernel_rfl, by kernel_rfl, by kernel_rfl, by kernel_rfl, by kernel_rfl, by kernel_rfl⟩, ?_⟩ | refine ⟨⟨by kernel_rfl, by kernel_rfl, by kernel_rfl, by kernel_rfl, by kernel_rfl, by kernel_rfl, by kernel_rfl, by kernel_rfl, by kernel_rfl⟩, ?_⟩ | refine ⟨⟨by kernel_rfl, by kernel_rfl, by kernel_rfl, by kernel_rfl, by kernel_rfl, by kernel_rfl, by kernel_rfl, by kernel_rfl, by kernel_rfl, by kernel_rfl⟩, ?_⟩ | refine ⟨⟨by kernel_rfl, by kernel_rfl, by kernel_rfl, by kernel_rfl, by kernel_rfl, by kernel_rfl, by kernel_rfl, by kernel_rfl, by kernel_rfl, by kernel_rfl, by kernel_rfl⟩, ?_⟩ | refine ⟨⟨by kernel_rfl, by kernel_rfl, by kernel_rfl, by kernel_rfl, by kernel_rfl, by kernel_rfl, by kernel_rfl, by kernel_rfl, by kernel_rfl, by kernel_rfl, by kernel_rfl, by kernel_rfl⟩, ?_⟩ | refine ⟨⟨by kernel_rfl, by kernel_rfl, by kernel_rfl, by kernel_rfl, by kernel_rfl, by kernel_rfl, by kernel_rfl, by kernel_rfl, by kernel_rfl, by kernel_rfl, by kernel_rfl, by kernel_rfl, by kernel_rfl⟩, ?_⟩)
      refine hB2 _ ⟨q + 1, by omega⟩ [] (by simp only; omega) rfl ?_
      simp (maxSteps := 2000000) only [enA, ↓enP, Nat.reduceAdd, Nat.reduceMul, Nat.reduceSub, Nat.reduceLT, Nat.reduceLeDiff, Nat.reduceEqDiff, Nat.reduceBEq, ↓reduceIte, reduceCtorEq, fA, eq', u6, u7]
    obtain rfl : q = P.length := by omega
    have r1 : ((P.length : Int) < (P.length : Int)) = False := eq_false (by omega)
    have r1' : (P.length < P.length) = False := eq_false cq
    have fe := firstS_end hok
    obtain ⟨f, hf⟩ : ∃ f : Nat, (f : Int) = a % (P.length : Int) := ⟨(a % (P.length : Int)).toNat, by have := Int.emod_nonneg a (show (P.length : Int) ≠ 0 by omega); omega⟩
    have hfl : f < P.length := by have := Int.emod_lt_of_pos a (show (0 : Int) < (P.length : Int) by omega); omega
    obtain ⟨g, hg⟩ : ∃ g : Nat, (g : Int) = b % ((P.length - f : Nat) : Int) := ⟨(b % ((P.length - f : Nat) : Int)).toNat, by have := Int.emod_nonneg b (show ((P.length - f : Nat) : Int) ≠ 0 by omega); omega⟩
    have hgl : g < P.length - f := by have := Int.emod_lt_of_pos b (show (0 : Int) < ((P.length - f : Nat) : Int) by omega); omega
    obtain ⟨t, ht⟩ : ∃ t, t = f + 1 + g := ⟨_, rfl⟩
    have x1 : IntKind.i64.wrap a = a := wrap_id (by omega) (by omega)
    have x2 : a.tmod (P.length : Int) = (f : Int) := by rw [Int.tmod_eq_emod_of_nonneg ha.1, hf]
    have x3 : ((P.length : Int) == 0) = false := by rw [beq_eq_false_iff_ne]; omega
    have x3' : ((P.length : Int) = 0) = False := eq_false (by omega)
    have x3b : ((P.length : Int) != 0) = true := by rw [bne_iff_ne]; omega
    have x4 : IntKind.i64.wrap b = b := wrap_id (by omega) (by omega)
    have x5 : IntKind.i64.wrap ((f : Int) + 1) = ((f + 1 : Nat) : Int) := wrap_id (by omega) (by omega)
    have x6 : IntKind.i64.wrap ((P.length : Int) - (f : Int)) = ((P.length - f : Nat) : Int) := by rw [wrap_id (by omega) (by omega)]; omega
    have x7 : b.tmod ((P.length - f : Nat) : Int) = (g : Int) := by rw [Int.tmod_eq_emod_of_nonneg hb.1, hg]
    have x8 : (((P.length - f : Nat) : Int) == 0) = false := by rw [beq_eq_false_iff_ne]; omega
    have x8' : (((P.length - f : Nat) : Int) = 0) = False := eq_false (by omega)
    have x8b : (((P.length - f : Nat) : Int) != 0) = true := by rw [bne_iff_ne]; omega
    have x9 : IntKind.i64.wrap (((f + 1 : Nat) : Int) + (g : Int)) = (t : Int) := by rw [wrap_id (by omega) (by omega)]; omega
    simp (maxSteps := 2000000) only [vcA, ↓vcP, ↓reduceIte, reduceCtorEq, Nat.reduceAdd, Nat.reduceMul, Nat.reduceSub, Nat.reduceLT, Nat.reduceLeDiff, Nat.reduceEqDiff, Nat.reduceBEq, Nat.reduceBNe, Nat.reduceGT, Nat.reduceDiv, Nat.reduceMod, Int.reduceAdd, Int.reduceSub, Int.reduceNeg, Int.reduceLT, Int.reduceLE, Int.reduceEq, Int.reduceToNat, fA, r1, r1', sl1, sl2, fe, bne, x1, x2, x3, x3', x3b, x4, x5, x6, x7, x8, x8', x8b, x9]
    refine goC_loop (α := {q : Nat // q ≤ P.length}) (fun x => ⟨[(7, .ob 88 P.length), (9, .v (.int .i64 m)), (12, .sl 1 ((shareTo P m P.length).map iR)), (19, .v (.int .i64 f)), (20, .v (.int .i64 t)), (21, .v (.int .i64 (partT (sumTo P) f t x.1))), (22, .ob 880 (joinT P f t x.1).length), (23, .v (.int .i64 (partT (firstS P m) f t x.1))), (24, .v (.int .i64 x.1))], [(88, .row 3 1 (P.map iR) false), (880, .row 3 1 ((joinT P f t x.1).map iR) false)]⟩) (fun x => P.length - x.1) ⟨0, by omega⟩ [some 840] ?_ ?_
    · have e0 : ∀ h, partT h f t 0 = 0 := fun h => by unfold partT; rw [if_pos (by omega)]
      simp (maxSteps := 2000000) only [enA, ↓enP, Nat.reduceAdd, Nat.reduceMul, Nat.reduceSub, Nat.reduceLT, Nat.reduceLeDiff, Nat.reduceEqDiff, Nat.reduceBEq, ↓reduceIte, reduceCtorEq, fA, e0, joinT]
      try rfl
    intro x B3 hB3
    obtain ⟨q, hq⟩ := x
    simp only at hB3 ⊢
    have jl := joinT_len P f t q
    by_cases cq : q < P.length
    · have r1 : ((q : Int) < (P.length : Int)) = True := eq_true (by omega)
      have r1' : (q < P.length) = True := eq_true cq
      have eq' : IntKind.i64.wrap ((q : Int) + 1) = ((q + 1 : Nat) : Int) := wrap_id (by omega) (by omega)
      have n1 : nth (shareTo P m P.length) q = shareAt P m q := nth_share (by omega)
      have y0 : IntKind.i64.wrap ((t : Int) - 1) = ((t - 1 : Nat) : Int) := by rw [wrap_id (by omega) (by omega)]; omega
      by_cases k1 : q < f
      · have l1 : ((q : Int) < (f : Int)) = True := eq_true (by omega)
        have l1' : (q < f) = True := eq_true k1
        have js : joinT P f t (q + 1) = joinT P f t q ++ [nth P q] := by simp only [joinT]; rw [if_pos (.inl k1)]
        have ps : ∀ h, partT h f t (q + 1) = partT h f t q := fun h => by unfold partT; rw [if_pos (show q + 1 ≤ f by omega), if_pos (show q ≤ f by omega)]
        simp (maxSteps := 2000000) only [vcA, ↓vcP, ↓reduceIte, reduceCtorEq, Nat.reduceAdd, Nat.reduceMul, Nat.reduceSub, Nat.reduceLT, Nat.reduceLeDiff, Nat.reduceEqDiff, Nat.reduceBEq, Nat.reduceBNe, Nat.reduceGT, Nat.reduceDiv, Nat.reduceMod, Int.reduceAdd, Int.reduceSub, Int.reduceNeg, Int.reduceLT, Int.reduceLE, Int.reduceEq, Int.reduceToNat, fA, r1, r1', l1, l1', iR]
        refine ⟨⟨by omega, by simp only [maxLen]; omega⟩, fun _ => ?_⟩
        refine hB3 _ ⟨q + 1, by omega⟩ [some 1056] (by simp only; omega) rfl ?_
        simp (maxSteps := 2000000) only [enA, ↓enP, Nat.reduceAdd, Nat.reduceMul, Nat.reduceSub, Nat.reduceLT, Nat.reduceLeDiff, Nat.reduceEqDiff, Nat.reduceBEq, ↓reduceIte, reduceCtorEq, fA, eq', js, ps, List.map_append, List.length_append, iR]
        try rfl
      have l1 : ((q : Int) < (f : Int)) = False := eq_false (by omega)
      have l1' : (q < f) = False := eq_false k1
      by_cases k2 : q ≥ t
      · have l2 : ((q : Int) ≥ (t : Int)) = True := eq_true (by omega)
        have l2' : (t ≤ q) = True := eq_true k2
        have js : joinT P f t (q + 1) = joinT P f t q ++ [nth P q] := by simp only [joinT]; rw [if_pos (.inr k2)]
        have ps : ∀ h, partT h f t (q + 1) = partT h f t q := fun h => by unfold partT; rw [if_neg (show ¬ q + 1 ≤ f by omega), if_pos (show t ≤ q + 1 by omega), if_neg (show ¬ q ≤ f by omega), if_pos (show t ≤ q by omega)]
        simp (maxSteps := 2000000) only [vcA, ↓vcP, ↓reduceIte, reduceCtorEq, Nat.reduceAdd, Nat.reduceMul, Nat.reduceSub, Nat.reduceLT, Nat.reduceLeDiff, Nat.reduceEqDiff, Nat.reduceBEq, Nat.reduceBNe, Nat.reduceGT, Nat.reduceDiv, Nat.reduceMod, Int.reduceAdd, Int.reduceSub, Int.reduceNeg, Int.reduceLT, Int.reduceLE, Int.reduceEq, Int.reduceToNat, fA, r1, r1', l1, l1', l2, l2', iR]
        refine ⟨⟨by omega, by simp only [maxLen]; omega⟩, fun _ => ?_⟩
        refine hB3 _ ⟨q + 1, by omega⟩ [some 1056] (by simp only; omega) rfl ?_
        simp (maxSteps := 2000000) only [enA, ↓enP, Nat.reduceAdd, Nat.reduceMul, Nat.reduceSub, Nat.reduceLT, Nat.reduceLeDiff, Nat.reduceEqDiff, Nat.reduceBEq, ↓reduceIte, reduceCtorEq, fA, eq', js, ps, List.map_append, List.length_append, iR]
        try rfl
      have l2 : ((q : Int) ≥ (t : Int)) = False := eq_false (by omega)
      have l2' : (t ≤ q) = False := eq_false (by omega)
      have pa : ∀ h : Nat → Int, partT h f t (q + 1) = partT h f t q + (h (q + 1) - h q) := fun h => by
        unfold partT
        rw [if_neg (show ¬ q + 1 ≤ f by omega)]
        by_cases e1 : q ≤ f
        · have e2 : q = f := by omega
          rw [if_pos e1, e2]
          split
          · have : t = f + 1 := by omega
            rw [this]; omega
          · omega
        · rw [if_neg e1, if_neg (show ¬ t ≤ q by omega)]
          split
          · have : t = q + 1 := by omega
            rw [this]; omega
          · omega
      have sb := sumTo_bound hbt (i := q) (by omega)
      have sb1 := sumTo_bound hbt (i := q + 1) (by omega)
      have sbf := sumTo_bound hbt (i := f) (by omega)
      have fb := firstS_bd hok (i := q) (by omega)
      have fb1 := firstS_bd hok (i := q + 1) (by omega)
      have fbf := firstS_bd hok (i := f) (by omega)
      have pS : partT (sumTo P) f t (q + 1) = sumTo P (q + 1) - sumTo P f := by
        unfold partT
        rw [if_neg (by omega)]
        split
        · have : t = q + 1 := by omega
          rw [this]
        · rfl
      have pF : partT (firstS P m) f t (q + 1) = firstS P m (q + 1) - firstS P m f := by
        unfold partT
        rw [if_neg (by omega)]
        split
        · have : t = q + 1 := by omega
          rw [this]
        · rfl
      have es : sumTo P (q + 1) = sumTo P q + nth P q := rfl
      have paS := pa (sumTo P)
      have paF := pa (firstS P m)
      have w2 : IntKind.i64.wrap (partT (sumTo P) f t q + nth P q) = partT (sumTo P) f t (q + 1) := by rw [wrap_id (by omega) (by omega)]; omega
      have w3 : IntKind.i64.wrap (partT (firstS P m) f t q + shareAt P m q) = partT (firstS P m) f t (q + 1) := by rw [shareAt_eq, wrap_id (by omega) (by omega)]; omega
      by_cases k3 : q + 1 = t
      · have l3 : ((q : Int) == ((t - 1 : Nat) : Int)) = true := by rw [beq_iff_eq]; omega
        have js : joinT P f t (q + 1) = joinT P f t q ++ [partT (sumTo P) f t (q + 1)] := by simp only [joinT]; rw [if_neg (by omega), if_pos k3, pS, k3]
        simp (maxSteps := 2000000) only [vcA, ↓vcP, ↓reduceIte, reduceCtorEq, Nat.reduceAdd, Nat.reduceMul, Nat.reduceSub, Nat.reduceLT, Nat.reduceLeDiff, Nat.reduceEqDiff, Nat.reduceBEq, Nat.reduceBNe, Nat.reduceGT, Nat.reduceDiv, Nat.reduceMod, Int.reduceAdd, Int.reduceSub, Int.reduceNeg, Int.reduceLT, Int.reduceLE, Int.reduceEq, Int.reduceToNat, fA, r1, r1', l1, l1', l2, l2', sl1, n1, iR, y0, l3, w2, w3]
        try repeat (first | refine ⟨by kernel_rfl, ?_⟩ | refine ⟨⟨by kernel_rfl, by kernel_rfl⟩, ?_⟩ | refine ⟨⟨by kernel_rfl, by kernel_rfl, by kernel_rfl⟩, ?_⟩ | refine ⟨⟨by kernel_rfl, by kernel_rfl, by kernel_rfl, by kernel_rfl⟩, ?_⟩ | refine ⟨⟨by kernel_rfl, by kernel_rfl, by kernel_rfl, by kernel_rfl, by kernel_rfl⟩, ?_⟩ | refine ⟨⟨by kernel_rfl, by kernel_rfl, by kernel_rfl, by kernel_rfl, by kernel_rfl, by kernel_rfl⟩, ?_⟩ | refine ⟨⟨by kernel_rfl, by kernel_rfl, by kernel_rfl, by kernel_rfl, by kernel_rfl, by kernel_rfl, by kernel_rfl⟩, ?_⟩ | refine ⟨⟨by kernel_rfl, by kernel_rfl, by kernel_rfl, by kernel_rfl, by kernel_rfl, by kernel_rfl, by kernel_rfl, by kernel_rfl⟩, ?_⟩ | refine ⟨⟨by kernel_rfl, by kernel_rfl, by kernel_rfl, by kernel_rfl, by kernel_rfl, by kernel_rfl, by kernel_rfl, by kernel_rfl, by kernel_rfl⟩, ?_⟩ | refine ⟨⟨by kernel_rfl, by kernel_rfl, by kernel_rfl, by kernel_rfl, by kernel_rfl, by kernel_rfl, by kernel_rfl, by kernel_rfl, by kernel_rfl, by kernel_rfl⟩, ?_⟩ | refine ⟨⟨by kernel_rfl, by kernel_rfl, by kernel_rfl, by kernel_rfl, by kernel_rfl, by kernel_rfl, by kernel_rfl, by kernel_rfl, by kernel_rfl, by kernel_rfl, by kernel_rfl⟩, ?_⟩ | refine ⟨⟨by kernel_rfl, by kernel_rfl, by kernel_rfl, by kernel_rfl, by kernel_rfl, by kernel_rfl, by kernel_rfl, by kernel_rfl, by kernel_rfl, by kernel_rfl, by kernel_rfl, by kernel_rfl⟩, ?_⟩ | refine ⟨⟨by kernel_rfl, by kernel_rfl, by kernel_rfl, by kernel_rfl, by kernel_rfl, by kernel_rfl, by kernel_rfl, by kernel_rfl, by kernel_rfl, by kernel_rfl, by kernel_rfl, by kernel_rfl, by kernel_rfl⟩, ?_⟩)
        refine ⟨⟨by omega, by simp only [maxLen]; omega⟩, fun _ => ?_⟩
        refine hB3 _ ⟨q + 1, by omega⟩ [some 1176] (by simp only; omega) rfl ?_
        simp (maxSteps := 2000000) only [enA, ↓enP, Nat.reduceAdd, Nat.reduceMul, Nat.reduceSub, Nat.reduceLT, Nat.reduceLeDiff, Nat.reduceEqDiff, Nat.reduceBEq, ↓reduceIte, reduceCtorEq, fA, eq', js, w2, w3, List.map_append, List.length_append, iR]
        try rfl
      · have l3 : ((q : Int) == ((t - 1 : Nat) : Int)) = false := by rw [beq_eq_false_iff_ne]; omega
        have js : joinT P f t (q + 1) = joinT P f t q := by simp only [joinT]; rw [if_neg (by omega), if_neg k3]
        simp (maxSteps := 2000000) only [vcA, ↓vcP, ↓reduceIte, reduceCtorEq, Nat.reduceAdd, Nat.reduceMul, Nat.reduceSub, Nat.reduceLT, Nat.reduceLeDiff, Nat.reduceEqDiff, Nat.reduceBEq, Nat.reduceBNe, Nat.reduceGT, Nat.reduceDiv, Nat.reduceMod, Int.reduceAdd, Int.reduceSub, Int.reduceNeg, Int.reduceLT, Int.reduceLE, Int.reduceEq, Int.reduceToNat, fA, r1, r1', l1, l1', l2, l2', sl1, n1, iR, y0, l3, w2, w3]
        try repeat (first | refine ⟨by kernel_rfl, ?_⟩ | refine ⟨⟨by kernel_rfl, by kernel_rfl⟩, ?_⟩ | refine ⟨⟨by kernel_rfl, by kernel_rfl, by kernel_rfl⟩, ?_⟩ | refine ⟨⟨by kernel_rfl, by kernel_rfl, by kernel_rfl, by kernel_rfl⟩, ?_⟩ | refine ⟨⟨by kernel_rfl, by kernel_rfl, by kernel_rfl, by kernel_rfl, by kernel_rfl⟩, ?_⟩ | refine ⟨⟨by kernel_rfl, by kernel_rfl, by kernel_rfl, by kernel_rfl, by kernel_rfl, by kernel_rfl⟩, ?_⟩ | refine ⟨⟨by kernel_rfl, by kernel_rfl, by kernel_rfl, by kernel_rfl, by kernel_rfl, by kernel_rfl, by kernel_rfl⟩, ?_⟩ | refine ⟨⟨by kernel_rfl, by kernel_rfl, by kernel_rfl, by kernel_rfl, by kernel_rfl, by kernel_rfl, by kernel_rfl, by kernel_rfl⟩, ?_⟩ | refine ⟨⟨by kernel_rfl, by kernel_rfl, by kernel_rfl, by kernel_rfl, by kernel_rfl, by kernel_rfl, by kernel_rfl, by kernel_rfl, by kernel_rfl⟩, ?_⟩ | refine ⟨⟨by kernel_rfl, by kernel_rfl, by kernel_rfl, by kernel_rfl, by kernel_rfl, by kernel_rfl, by kernel_rfl, by kernel_rfl, by kernel_rfl, by kernel_rfl⟩, ?_⟩ | refine ⟨⟨by kernel_rfl, by kernel_rfl, by kernel_rfl, by kernel_rfl, by kernel_rfl, by kernel_rfl, by kernel_rfl, by kernel_rfl, by kernel_rfl, by kernel_rfl, by kernel_rfl⟩, ?_⟩ | refine ⟨⟨by kernel_rfl, by kernel_rfl, by kernel_rfl, by kernel_rfl, by kernel_rfl, by kernel_rfl, by kernel_rfl, by kernel_rfl, by kernel_rfl, by kernel_rfl, by kernel_rfl, by kernel_rfl⟩, ?_⟩ | refine ⟨⟨by kernel_rfl, by kernel_rfl, by kernel_rfl, by kernel_rfl, by kernel_rfl, by kernel_rfl, by kernel_rfl, by kernel_rfl, by kernel_rfl, by kernel_rfl, by kernel_rfl, by kernel_rfl, by kernel_rfl⟩, ?_⟩)
        refine hB3 _ ⟨q + 1, by omega⟩ [some 880] (by simp only; omega) rfl ?_
        simp (maxSteps := 2000000) only [enA, ↓enP, Nat.reduceAdd, Nat.reduceMul, Nat.reduceSub, Nat.reduceLT, Nat.reduceLeDiff, Nat.reduceEqDiff, Nat.reduceBEq, ↓reduceIte, reduceCtorEq, fA, eq', js, w2, w3]
        try rfl
    obtain rfl : q = P.length := by omega
    have r1 : ((P.length : Int) < (P.length : Int)) = False := eq_false (by omega)
    have r1' : (P.length < P.length) = False := eq_false cq
    have htl : t ≤ P.length := by omega
    have hft : f < t := by omega
    have pS : partT (sumTo P) f t P.length = sumTo P t - sumTo P f := by unfold partT; rw [if_neg (by omega), if_pos htl]
    have pF : partT (firstS P m) f t P.length = firstS P m t - firstS P m f := by unfold partT; rw [if_neg (by omega), if_pos htl]
    rw [pS, pF]
    by_cases k5 : sumTo P t - sumTo P f > 1000
    · have l5 : (sumTo P t - sumTo P f > 1000) = True := eq_true k5
      simp (maxSteps := 2000000) only [vcA, ↓vcP, ↓reduceIte, reduceCtorEq, Nat.reduceAdd, Nat.reduceMul, Nat.reduceSub, Nat.reduceLT, Nat.reduceLeDiff, Nat.reduceEqDiff, Nat.reduceBEq, Nat.reduceBNe, Nat.reduceGT, Nat.reduceDiv, Nat.reduceMod, Int.reduceAdd, Int.reduceSub, Int.reduceNeg, Int.reduceLT, Int.reduceLE, Int.reduceEq, Int.reduceToNat, fA, r1, r1', l5]
      refine onF_data known_spec ?_ ?_
      · simp (maxSteps := 2000000) only [okA, ↓okP, Nat.reduceAdd, Nat.reduceMul, Nat.reduceSub, Nat.reduceLT, Nat.reduceLeDiff, Nat.reduceEqDiff, Nat.reduceBEq, ↓reduceIte, reduceCtorEq]
      simp (maxSteps := 2000000) only [vcA, ↓vcP, ↓reduceIte, reduceCtorEq, Nat.reduceAdd, Nat.reduceMul, Nat.reduceSub, Nat.reduceLT, Nat.reduceLeDiff, Nat.reduceEqDiff, Nat.reduceBEq, Nat.reduceBNe, Nat.reduceGT, Nat.reduceDiv, Nat.reduceMod, Int.reduceAdd, Int.reduceSub, Int.reduceNeg, Int.reduceLT, Int.reduceLE, Int.reduceEq, Int.reduceToNat, fA]
      refine hR _ (fin_of0 ?_)
      simp (maxSteps := 2000000) only [enA, ↓enP, Nat.reduceAdd, Nat.reduceMul, Nat.reduceSub, Nat.reduceLT, Nat.reduceLeDiff, Nat.reduceEqDiff, Nat.reduceBEq, ↓reduceIte, reduceCtorEq, fA]
    have l5 : (sumTo P t - sumTo P f > 1000) = False := eq_false k5
    have Jl := joined_len hft htl
    have Jb := joined_ok hft htl hbt (by omega)
    have Js := joined_share hft htl m
    obtain ⟨J, hJ⟩ : ∃ J, J = joinT P f t P.length := ⟨_, rfl⟩
    rw [← hJ] at Jl Jb Js jl
    rw [← hJ]
    obtain ⟨hG1, hG2⟩ := shareErr0 (P := J) (m := m) (by omega) (by omega) Jb (by omega)
    have slJ : (shareTo J m J.length).length = J.length := shareTo_length J m _
    have nJ : nth (shareTo J m J.length) f = shareAt J m f := nth_share (by omega)
    have v1 : ((f : Int) < (J.length : Int)) = True := eq_true (by omega)
    have v1' : (f < J.length) = True := eq_true (by omega)
    simp (maxSteps := 2000000) only [vcA, ↓vcP, ↓reduceIte, reduceCtorEq, Nat.reduceAdd, Nat.reduceMul, Nat.reduceSub, Nat.reduceLT, Nat.reduceLeDiff, Nat.reduceEqDiff, Nat.reduceBEq, Nat.reduceBNe, Nat.reduceGT, Nat.reduceDiv, Nat.reduceMod, Int.reduceAdd, Int.reduceSub, Int.reduceNeg, Int.reduceLT, Int.reduceLE, Int.reduceEq, Int.reduceToNat, fA, r1, r1', l5]
    refine onF_call (shareF_spec J m (by omega)) [880] [] [] ?_ ?_
    · simp (maxSteps := 2000000) only [okA, ↓okP, Nat.reduceAdd, Nat.reduceMul, Nat.reduceSub, Nat.reduceLT, Nat.reduceLeDiff, Nat.reduceEqDiff, Nat.reduceBEq, ↓reduceIte, reduceCtorEq, iR]
    rw [hG1, hG2]
    simp (maxSteps := 2000000) only [vcA, ↓vcP, ↓reduceIte, reduceCtorEq, Nat.reduceAdd, Nat.reduceMul, Nat.reduceSub, Nat.reduceLT, Nat.reduceLeDiff, Nat.reduceEqDiff, Nat.reduceBEq, Nat.reduceBNe, Nat.reduceGT, Nat.reduceDiv, Nat.reduceMod, Int.reduceAdd, Int.reduceSub, Int.reduceNeg, Int.reduceLT, Int.reduceLE, Int.reduceEq, Int.reduceToNat, fA, slJ, g0, be, v1, v1', nJ, Js, iR]
    refine onF_data known_spec ?_ ?_
    · simp (maxSteps := 2000000) only [okA, ↓okP, Nat.reduceAdd, Nat.reduceMul, Nat.reduceSub, Nat.reduceLT, Nat.reduceLeDiff, Nat.reduceEqDiff, Nat.reduceBEq, ↓reduceIte, reduceCtorEq]
    simp (maxSteps := 2000000) only [vcA, ↓vcP, ↓reduceIte, reduceCtorEq, Nat.reduceAdd, Nat.reduceMul, Nat.reduceSub, Nat.reduceLT, Nat.reduceLeDiff, Nat.reduceEqDiff, Nat.reduceBEq, Nat.reduceBNe, Nat.reduceGT, Nat.reduceDiv, Nat.reduceMod, Int.reduceAdd, Int.reduceSub, Int.reduceNeg, Int.reduceLT, Int.reduceLE, Int.reduceEq, Int.reduceToNat, fA]
    refine hR _ (fin_of0 ?_)
    simp (maxSteps := 2000000) only [enA, ↓enP, Nat.reduceAdd, Nat.reduceMul, Nat.reduceSub, Nat.reduceLT, Nat.reduceLeDiff, Nat.reduceEqDiff, Nat.reduceBEq, ↓reduceIte, reduceCtorEq, fA, be]
  · have p1 : ((P.length : Int) < 6) = False := eq_false (by omega)
    simp (maxSteps := 2000000) only [vcA, ↓vcP, ↓reduceIte, reduceCtorEq, Nat.reduceAdd, Nat.reduceMul, Nat.reduceSub, Nat.reduceLT, Nat.reduceLeDiff, Nat.reduceEqDiff, Nat.reduceBEq, Nat.reduceBNe, Nat.reduceGT, Nat.reduceDiv, Nat.reduceMod, Int.reduceAdd, Int.reduceSub, Int.reduceNeg, Int.reduceLT, Int.reduceLE, Int.reduceEq, Int.reduceToNat, fA, p1]
    refine ⟨⟨by omega, by simp only [maxLen]; omega⟩, fun _ => ?_⟩
    repeat (first | refine ⟨by kernel_rfl, ?_⟩ | refine ⟨⟨by kernel_rfl, by kernel_rfl⟩, ?_⟩ | refine ⟨⟨by kernel_rfl, by kernel_rfl, by kernel_rfl⟩, ?_⟩ | refine ⟨⟨by kernel_rfl, by kernel_rfl, by kernel_rfl, by kernel_rfl⟩, ?_⟩ | refine ⟨⟨by kernel_rfl, by kernel_rfl, by kernel_rfl, by kernel_rfl, by kernel_rfl⟩, ?_⟩ | refine ⟨⟨by kernel_rfl, by kernel_rfl, by kernel_rfl, by kernel_rfl, by kernel_rfl, by kernel_rfl⟩, ?_⟩ | refine ⟨⟨by kernel_rfl, by kernel_rfl, by kernel_rfl, by kernel_rfl, by kernel_rfl, by kernel_rfl, by kernel_rfl⟩, ?_⟩ | refine ⟨⟨by kernel_rfl, by kernel_rfl, by kernel_rfl, by kernel_rfl, by kernel_rfl, by kernel_rfl, by kernel_rfl, by kernel_rfl⟩, ?_⟩ | refine ⟨⟨by kernel_rfl, by kernel_rfl, by kernel_rfl, by kernel_rfl, by kernel_rfl, by kernel_rfl, by kernel_rfl, by kernel_rfl, by kernel_rfl⟩, ?_⟩ | refine ⟨⟨by kernel_rfl, by kernel_rfl, by kernel_rfl, by kernel_rfl, by kernel_rfl, by kernel_rfl, by kernel_rfl, by kernel_rfl, by kernel_rfl, by kernel_rfl⟩, ?_⟩ | refine ⟨⟨by kernel_rfl, by kernel_rfl, by kernel_rfl, by kernel_rfl, by kernel_rfl, by kernel_rfl, by kernel_rfl, by kernel_rfl, by kernel_rfl, by kernel_rfl, by kernel_rfl⟩, ?_⟩ | refine ⟨⟨by kernel_rfl, by kernel_rfl, by kernel_rfl, by kernel_rfl, by kernel_rfl, by kernel_rfl, by kernel_rfl, by kernel_rfl, by kernel_rfl, by kernel_rfl, by kernel_rfl, by kernel_rfl⟩, ?_⟩ | refine ⟨⟨by kernel_rfl, by kernel_rfl, by kernel_rfl, by kernel_rfl, by kernel_rfl, by kernel_rfl, by kernel_rfl, by kernel_rfl, by kernel_rfl, by kernel_rfl, by kernel_rfl, by kernel_rfl, by kernel_rfl⟩, ?_⟩)
    refine onF_call (shareF_spec P m (by omega)) [232] [] [] ?_ ?_
    · simp (maxSteps := 2000000) only [okA, ↓okP, Nat.reduceAdd, Nat.reduceMul, Nat.reduceSub, Nat.reduceLT, Nat.reduceLeDiff, Nat.reduceEqDiff, Nat.reduceBEq, ↓reduceIte, reduceCtorEq, iR]
    rw [hE1, hE2]
    simp (maxSteps := 2000000) only [vcA, ↓vcP, ↓reduceIte, reduceCtorEq, Nat.reduceAdd, Nat.reduceMul, Nat.reduceSub, Nat.reduceLT, Nat.reduceLeDiff, Nat.reduceEqDiff, Nat.reduceBEq, Nat.reduceBNe, Nat.reduceGT, Nat.reduceDiv, Nat.reduceMod, Int.reduceAdd, Int.reduceSub, Int.reduceNeg, Int.reduceLT, Int.reduceLE, Int.reduceEq, Int.reduceToNat, fA]
    refine ⟨⟨by omega, by simp only [maxLen]; omega⟩, fun _ => ?_⟩
    try repeat (first | refine ⟨by kernel_rfl, ?_⟩ | refine ⟨⟨by kernel_rfl, by kernel_rfl⟩, ?_⟩ | refine ⟨⟨by kernel_rfl, by kernel_rfl, by kernel_rfl⟩, ?_⟩ | refine ⟨⟨by kernel_rfl, by kernel_rfl, by kernel_rfl, by kernel_rfl⟩, ?_⟩ | refine ⟨⟨by kernel_rfl, by kernel_rfl, by kernel_rfl, by kernel_rfl, by kernel_rfl⟩, ?_⟩ | refine ⟨⟨by kernel_rfl, by kernel_rfl, by kernel_rfl, by kernel_rfl, by kernel_rfl, by kernel_rfl⟩, ?_⟩ | refine ⟨⟨by kernel_rfl, by kernel_rfl, by kernel_rfl, by kernel_rfl, by kernel_rfl, by kernel_rfl, by kernel_rfl⟩, ?_⟩ | refine ⟨⟨by kernel_rfl, by kernel_rfl, by kernel_rfl, by kernel_rfl, by kernel_rfl, by kernel_rfl, by kernel_rfl, by kernel_rfl⟩, ?_⟩ | refine ⟨⟨by kernel_rfl, by kernel_rfl, by kernel_rfl, by kernel_rfl, by kernel_rfl, by kernel_rfl, by kernel_rfl, by kernel_rfl, by kernel_rfl⟩, ?_⟩ | refine ⟨⟨by kernel_rfl, by kernel_rfl, by kernel_rfl, by kernel_rfl, by kernel_rfl, by kernel_rfl, by kernel_rfl, by kernel_rfl, by kernel_rfl, by kernel_rfl⟩, ?_⟩ | refine ⟨⟨by kernel_rfl, by kernel_rfl, by kernel_rfl, by kernel_rfl, by kernel_rfl, by kernel_rfl, by kernel_rfl, by kernel_rfl, by kernel_rfl, by kernel_rfl, by kernel_rfl⟩, ?_⟩ | refine ⟨⟨by kernel_rfl, by kernel_rfl, by kernel_rfl, by kernel_rfl, by kernel_rfl, by kernel_rfl, by kernel_rfl, by kernel_rfl, by kernel_rfl, by kernel_rfl, by kernel_rfl, by kernel_rfl⟩, ?_⟩ | refine ⟨⟨by kernel_rfl, by kernel_rfl, by kernel_rfl, by kernel_rfl, by kernel_rfl, by kernel_rfl, by kernel_rfl, by kernel_rfl, by kernel_rfl, by kernel_rfl, by kernel_rfl, by kernel_rfl, by kernel_rfl⟩, ?_⟩)
    simp (maxSteps := 2000000) only [vcA, ↓vcP, ↓reduceIte, reduceCtorEq, Nat.reduceAdd, Nat.reduceMul, Nat.reduceSub, Nat.reduceLT, Nat.reduceLeDiff, Nat.reduceEqDiff, Nat.reduceBEq, Nat.reduceBNe, Nat.reduceGT, Nat.reduceDiv, Nat.reduceMod, Int.reduceAdd, Int.reduceSub, Int.reduceNeg, Int.reduceLT, Int.reduceLE, Int.reduceEq, Int.reduceToNat, fA, z2, z3, z4]
    try repeat (first | refine ⟨by kernel_rfl, ?_⟩ | refine ⟨⟨by kernel_rfl, by kernel_rfl⟩, ?_⟩ | refine ⟨⟨by kernel_rfl, by kernel_rfl, by kernel_rfl⟩, ?_⟩ | refine ⟨⟨by kernel_rfl, by kernel_rfl, by kernel_rfl, by kernel_rfl⟩, ?_⟩ | refine ⟨⟨by kernel_rfl, by kernel_rfl, by kernel_rfl, by kernel_rfl, by kernel_rfl⟩, ?_⟩ | refine ⟨⟨by kernel_rfl, by kernel_rfl, by kernel_rfl, by kernel_rfl, by kernel_rfl, by kernel_rfl⟩, ?_⟩ | refine ⟨⟨by kernel_rfl, by kernel_rfl, by kernel_rfl, by kernel_rfl, by kernel_rfl, by kernel_rfl, by kernel_rfl⟩, ?_⟩ | refine ⟨⟨by kernel_rfl, by kernel_rfl, by kernel_rfl, by kernel_rfl, by kernel_rfl, by kernel_rfl, by kernel_rfl, by kernel_rfl⟩, ?_⟩ | refine ⟨⟨by kernel_rfl, by kernel_rfl, by kernel_rfl, by kernel_rfl, by kernel_rfl, by kernel_rfl, by kernel_rfl, by kernel_rfl, by kernel_rfl⟩, ?_⟩ | refine ⟨⟨by kernel_rfl, by kernel_rfl, by kernel_rfl, by kernel_rfl, by kernel_rfl, by kernel_rfl, by kernel_rfl, by kernel_rfl, by kernel_rfl, by kernel_rfl⟩, ?_⟩ | refine ⟨⟨by kernel_rfl, by kernel_rfl, by kernel_rfl, by kernel_rfl, by kernel_rfl, by kernel_rfl, by kernel_rfl, by kernel_rfl, by kernel_rfl, by kernel_rfl, by kernel_rfl⟩, ?_⟩ | refine ⟨⟨by kernel_rfl, by kernel_rfl, by kernel_rfl, by kernel_rfl, by kernel_rfl, by kernel_rfl, by kernel_rfl, by kernel_rfl, by kernel_rfl, by kernel_rfl, by kernel_rfl, by kernel_rfl⟩, ?_⟩ | refine ⟨⟨by kernel_rfl, by kernel_rfl, by kernel_rfl, by kernel_rfl, by kernel_rfl, by kernel_rfl, by kernel_rfl, by kernel_rfl, by kernel_rfl, by kernel_rfl, by kernel_rfl, by kernel_rfl, by kernel_rfl⟩, ?_⟩)
    refine onF_call (shareF_spec P m2 (by omega)) [312] [] [] ?_ ?_
    · simp (maxSteps := 2000000) only [okA, ↓okP, Nat.reduceAdd, Nat.reduceMul, Nat.reduceSub, Nat.reduceLT, Nat.reduceLeDiff, Nat.reduceEqDiff, Nat.reduceBEq, ↓reduceIte, reduceCtorEq, iR]
    rw [hF1, hF2]
    simp (maxSteps := 2000000) only [vcA, ↓vcP, ↓reduceIte, reduceCtorEq, Nat.reduceAdd, Nat.reduceMul, Nat.reduceSub, Nat.reduceLT, Nat.reduceLeDiff, Nat.reduceEqDiff, Nat.reduceBEq, Nat.reduceBNe, Nat.reduceGT, Nat.reduceDiv, Nat.reduceMod, Int.reduceAdd, Int.reduceSub, Int.reduceNeg, Int.reduceLT, Int.reduceLE, Int.reduceEq, Int.reduceToNat, fA, sl1, sl2, g1, bne]
    try repeat (first | refine ⟨by kernel_rfl, ?_⟩ | refine ⟨⟨by kernel_rfl, by kernel_rfl⟩, ?_⟩ | refine ⟨⟨by kernel_rfl, by kernel_rfl, by kernel_rfl⟩, ?_⟩ | refine ⟨⟨by kernel_rfl, by kernel_rfl, by kernel_rfl, by kernel_rfl⟩, ?_⟩ | refine ⟨⟨by kernel_rfl, by kernel_rfl, by kernel_rfl, by kernel_rfl, by kernel_rfl⟩, ?_⟩ | refine ⟨⟨by kernel_rfl, by kernel_rfl, by kernel_rfl, by kernel_rfl, by kernel_rfl, by kernel_rfl⟩, ?_⟩ | refine ⟨⟨by kernel_rfl, by kernel_rfl, by kernel_rfl, by kernel_rfl, by kernel_rfl, by kernel_rfl, by kernel_rfl⟩, ?_⟩ | refine ⟨⟨by kernel_rfl, by kernel_rfl, by kernel_rfl, by kernel_rfl, by kernel_rfl, by kernel_rfl, by kernel_rfl, by kernel_rfl⟩, ?_⟩ | refine ⟨⟨by kernel_rfl, by kernel_rfl, by kernel_rfl, by kernel_rfl, by kernel_rfl, by kernel_rfl, by kernel_rfl, by kernel_rfl, by kernel_rfl⟩, ?_⟩ | refine ⟨⟨by kernel_rfl, by kernel_rfl, by kernel_rfl, by kernel_rfl, by kernel_rfl, by kernel_rfl, by kernel_rfl, by kernel_rfl, by kernel_rfl, by kernel_rfl⟩, ?_⟩ | refine ⟨⟨by kernel_rfl, by kernel_rfl, by kernel_rfl, by kernel_rfl, by kernel_rfl, by kernel_rfl, by kernel_rfl, by kernel_rfl, by kernel_rfl, by kernel_rfl, by kernel_rfl⟩, ?_⟩ | refine ⟨⟨by kernel_rfl, by kernel_rfl, by kernel_rfl, by kernel_rfl, by kernel_rfl, by kernel_rfl, by kernel_rfl, by kernel_rfl, by kernel_rfl, by kernel_rfl, by kernel_rfl, by kernel_rfl⟩, ?_⟩ | refine ⟨⟨by kernel_rfl, by kernel_rfl, by kernel_rfl, by kernel_rfl, by kernel_rfl, by kernel_rfl, by kernel_rfl, by kernel_rfl, by kernel_rfl, by kernel_rfl, by kernel_rfl, by kernel_rfl, by kernel_rfl⟩, ?_⟩)
    try simp (maxSteps := 2000000) only [vcA, ↓vcP, ↓reduceIte, reduceCtorEq, Nat.reduceAdd, Nat.reduceMul, Nat.reduceSub, Nat.reduceLT, Nat.reduceLeDiff, Nat.reduceEqDiff, Nat.reduceBEq, Nat.reduceBNe, Nat.reduceGT, Nat.reduceDiv, Nat.reduceMod, Int.reduceAdd, Int.reduceSub, Int.reduceNeg, Int.reduceLT, Int.reduceLE, Int.reduceEq, Int.reduceToNat, fA, sl1, sl2, g1, bne]
    refine goC_loop (α := {q : Nat // q ≤ P.length}) (fun x => ⟨[(5, .ptr 8 0), (7, .ob 88 P.length), (8, .v (.int .i64 (sumTo P P.length))), (9, .v (.int .i64 m)), (12, .sl 1 ((shareTo P m P.length).map iR)), (14, .sl 1 ((shareTo P m2 P.length).map iR)), (16, .v (.int .i64 (firstS P m x.1))), (17, .v (.int .i64 (firstS P m2 x.1))), (18, .v (.int .i64 x.1))], [(8, .box 44 [.v (.int .u8 a), .v (.int .u8 b), .v (.int .u8 c)]), (88, .row 3 1 (P.map iR) false)]⟩) (fun x => P.length - x.1) ⟨0, by omega⟩ [] ?_ ?_
    · have e0 : firstS P m 0 = 0 := by simp [firstS, sumTo]
      have e0' : firstS P m2 0 = 0 := by simp [firstS, sumTo]
      simp (maxSteps := 2000000) only [enA, ↓enP, Nat.reduceAdd, Nat.reduceMul, Nat.reduceSub, Nat.reduceLT, Nat.reduceLeDiff, Nat.reduceEqDiff, Nat.reduceBEq, ↓reduceIte, reduceCtorEq, fA, e0, e0']
      try rfl
    intro x B2 hB2
    obtain ⟨q, hq⟩ := x
    simp only at hB2 ⊢
    by_cases cq : q < P.length
    · have r1 : ((q : Int) < (P.length : Int)) = True := eq_true (by omega)
      have r1' : (q < P.length) = True := eq_true cq
      have r2' : (q < P.length) = True := eq_true (by omega)
      have eq' : IntKind.i64.wrap ((q : Int) + 1) = ((q + 1 : Nat) : Int) := wrap_id (by omega) (by omega)
      have n1 : nth (shareTo P m P.length) q = shareAt P m q := nth_share (by omega)
      have n2 : nth (shareTo P m2 P.length) q = shareAt P m2 q := nth_share (by omega)
      obtain ⟨k1, k2, k3, k4⟩ := share_near hok (i := q) (by omega)
      obtain ⟨k1', k2', _, _⟩ := share_near hok2 (i := q) (by omega)
      obtain ⟨A1, A2⟩ := sum_all hok
      have pq := hok.ok _ (nth_mem (l := P) (i := q) (by omega))
      have b1 := mul_bound (a := m) (b := nth P q) (m := 10000) (k := 256) (by omega) (by omega)
      have b2 := mul_bound (a := shareAt P m q + 1) (b := sumTo P P.length) (m := 10001) (k := 1536) (by omega) (by omega)
      have f1 := firstS_bd hok (i := q) (by omega)
      have f1' := firstS_bd hok (i := q + 1) (by omega)
      have f2 := firstS_bd hok2 (i := q) (by omega)
      have f2' := firstS_bd hok2 (i := q + 1) (by omega)
      have fm := firstS_mono hok hm2b.1 (i := q + 1) (by omega)
      have s1 : (shareAt P m q < 0) = False := eq_false (by omega)
      have s2 : (shareAt P m q > m) = False := eq_false (by omega)
      have u1 : IntKind.i64.wrap (shareAt P m q + 1) = shareAt P m q + 1 := wrap_id (by omega) (by omega)
      have u2 : IntKind.i64.wrap ((shareAt P m q + 1) * sumTo P P.length) = (shareAt P m q + 1) * sumTo P P.length := wrap_id (by omega) (by omega)
      have u3 : IntKind.i64.wrap (m * nth P q) = m * nth P q := wrap_id (by omega) (by omega)
      have s3 : ((shareAt P m q + 1) * sumTo P P.length ≤ m * nth P q) = False := eq_false (by omega)
      have u4 : IntKind.i64.wrap (shareAt P m q - 1) = shareAt P m q - 1 := wrap_id (by omega) (by omega)
      have b3 : -1536 ≤ (shareAt P m q - 1) * sumTo P P.length := by
        have := mul_bound (a := shareAt P m q) (b := sumTo P P.length) (m := 10001) (k := 1536) (by omega) (by omega)
        rw [Int.sub_mul, Int.one_mul]
        omega
      have u5 : IntKind.i64.wrap ((shareAt P m q - 1) * sumTo P P.length) = (shareAt P m q - 1) * sumTo P P.length := wrap_id (by omega) (by omega)
      have s4 : ((shareAt P m q - 1) * sumTo P P.length ≥ m * nth P q) = False := eq_false (by omega)
      have u6 : IntKind.i64.wrap (firstS P m q + shareAt P m q) = firstS P m (q + 1) := by rw [shareAt_eq, wrap_id (by omega) (by omega)]; omega
      have u7 : IntKind.i64.wrap (firstS P m2 q + shareAt P m2 q) = firstS P m2 (q + 1) := by rw [shareAt_eq, wrap_id (by omega) (by omega)]; omega
      have s5 : (firstS P m2 (q + 1) < firstS P m (q + 1)) = False := eq_false (by omega)
      simp (maxSteps := 2000000) only [vcA, ↓vcP, ↓reduceIte, reduceCtorEq, Nat.reduceAdd, Nat.reduceMul, Nat.reduceSub, Nat.reduceLT, Nat.reduceLeDiff, Nat.reduceEqDiff, Nat.reduceBEq, Nat.reduceBNe, Nat.reduceGT, Nat.reduceDiv, Nat.reduceMod, Int.reduceAdd, Int.reduceSub, Int.reduceNeg, Int.reduceLT, Int.reduceLE, Int.reduceEq, Int.reduceToNat, fA, r1, r1', r2', n1, n2, sl1, sl2, iR, s1, s2, s3, s4, s5, u1, u2, u3, u4, u5, u6, u7]
      try repeat (first | refine ⟨by kernel_rfl, ?_⟩ | refine ⟨⟨by kernel_rfl, by kernel_rfl⟩, ?_⟩ | refine ⟨⟨by kernel_rfl, by kernel_rfl, by kernel_rfl⟩, ?_⟩ | refine ⟨⟨by kernel_rfl, by kernel_rfl, by kernel_rfl, by kernel_rfl⟩, ?_⟩ | refine ⟨⟨by kernel_rfl, by kernel_rfl, by kernel_rfl, by kernel_rfl, by kernel_rfl⟩, ?_⟩ | refine ⟨⟨by kernel_rfl, by kernel_rfl, by kernel_rfl, by kernel_rfl, by kernel_rfl, by kernel_rfl⟩, ?_⟩ | refine ⟨⟨by kernel_rfl, by kernel_rfl, by kernel_rfl, by kernel_rfl, by kernel_rfl, by kernel_rfl, by kernel_rfl⟩, ?_⟩ | refine ⟨⟨by kernel_rfl, by kernel_rfl, by kernel_rfl, by kernel_rfl, by kernel_rfl, by kernel_rfl, by kernel_rfl, by kernel_rfl⟩, ?_⟩ | refine ⟨⟨by kernel_rfl, by kernel_rfl, by kernel_rfl, by kernel_rfl, by kernel_rfl, by kernel_rfl, by kernel_rfl, by kernel_rfl, by kernel_rfl⟩, ?_⟩ | refine ⟨⟨by kernel_rfl, by kernel_rfl, by kernel_rfl, by kernel_rfl, by kernel_rfl, by kernel_rfl, by kernel_rfl, by kernel_rfl, by kernel_rfl, by kernel_rfl⟩, ?_⟩ | refine ⟨⟨by kernel_rfl, by kernel_rfl, by kernel_rfl, by kernel_rfl, by kernel_rfl, by kernel_rfl, by kernel_rfl, by kernel_rfl, by kernel_rfl, by kernel_rfl, by kernel_rfl⟩, ?_⟩ | refine ⟨⟨by kernel_rfl, by kernel_rfl, by kernel_rfl, by kernel_rfl, by kernel_rfl, by kernel_rfl, by kernel_rfl, by kernel_rfl, by kernel_rfl, by kernel_rfl, by kernel_rfl, by kernel_rfl⟩, ?_⟩ | refine ⟨⟨by kernel_rfl, by kernel_rfl, by kernel_rfl, by kernel_rfl, by kernel_rfl, by kernel_rfl, by kernel_rfl, by kernel_rfl, by kernel_rfl, by kernel_rfl, by kernel_rfl, by kernel_rfl, by kernel_rfl⟩, ?_⟩)
      refine hB2 _ ⟨q + 1, by omega⟩ [] (by simp only; omega) rfl ?_
      simp (maxSteps := 2000000) only [enA, ↓enP, Nat.reduceAdd, Nat.reduceMul, Nat.reduceSub, Nat.reduceLT, Nat.reduceLeDiff, Nat.reduceEqDiff, Nat.reduceBEq, ↓reduceIte, reduceCtorEq, fA, eq', u6, u7]
    obtain rfl : q = P.length := by omega
    have r1 : ((P.length : Int) < (P.length : Int)) = False := eq_false (by omega)
    have r1' : (P.length < P.length) = False := eq_false cq
    have fe := firstS_end hok
    obtain ⟨f, hf⟩ : ∃ f : Nat, (f : Int) = a % (P.length : Int) := ⟨(a % (P.length : Int)).toNat, by have := Int.emod_nonneg a (show (P.length : Int) ≠ 0 by omega); omega⟩
    have hfl : f < P.length := by have := Int.emod_lt_of_pos a (show (0 : Int) < (P.length : Int) by omega); omega
    obtain ⟨g, hg⟩ : ∃ g : Nat, (g : Int) = b % ((P.length - f : Nat) : Int) := ⟨(b % ((P.length - f : Nat) : Int)).toNat, by have := Int.emod_nonneg b (show ((P.length - f : Nat) : Int) ≠ 0 by omega); omega⟩
    have hgl : g < P.length - f := by have := Int.emod_lt_of_pos b (show (0 : Int) < ((P.length - f : Nat) : Int) by omega); omega
    obtain ⟨t, ht⟩ : ∃ t, t = f + 1 + g := ⟨_, rfl⟩
    have x1 : IntKind.i64.wrap a = a := wrap_id (by omega) (by omega)
    have x2 : a.tmod (P.length : Int) = (f : Int) := by rw [Int.tmod_eq_emod_of_nonneg ha.1, hf]
    have x3 : ((P.length : Int) == 0) = false := by rw [beq_eq_false_iff_ne]; omega
    have x3' : ((P.length : Int) = 0) = False := eq_false (by omega)
    have x3b : ((P.length : Int) != 0) = true := by rw [bne_iff_ne]; omega
    have x4 : IntKind.i64.wrap b = b := wrap_id (by omega) (by omega)
    have x5 : IntKind.i64.wrap ((f : Int) + 1) = ((f + 1 : Nat) : Int) := wrap_id (by omega) (by omega)
    have x6 : IntKind.i64.wrap ((P.length : Int) - (f : Int)) = ((P.length - f : Nat) : Int) := by rw [wrap_id (by omega) (by omega)]; omega
    have x7 : b.tmod ((P.length - f : Nat) : Int) = (g : Int) := by rw [Int.tmod_eq_emod_of_nonneg hb.1, hg]
    have x8 : (((P.length - f : Nat) : Int) == 0) = false := by rw [beq_eq_false_iff_ne]; omega
    have x8' : (((P.length - f : Nat) : Int) = 0) = False := eq_false (by omega)
    have x8b : (((P.length - f : Nat) : Int) != 0) = true := by rw [bne_iff_ne]; omega
    have x9 : IntKind.i64.wrap (((f + 1 : Nat) : Int) + (g : Int)) = (t : Int) := by rw [wrap_id (by omega) (by omega)]; omega
    simp (maxSteps := 2000000) only [vcA, ↓vcP, ↓reduceIte, reduceCtorEq, Nat.reduceAdd, Nat.reduceMul, Nat.reduceSub, Nat.reduceLT, Nat.reduceLeDiff, Nat.reduceEqDiff, Nat.reduceBEq, Nat.reduceBNe, Nat.reduceGT, Nat.reduceDiv, Nat.reduceMod, Int.reduceAdd, Int.reduceSub, Int.reduceNeg, Int.reduceLT, Int.reduceLE, Int.reduceEq, Int.reduceToNat, fA, r1, r1', sl1, sl2, fe, bne, x1, x2, x3, x3', x3b, x4, x5, x6, x7, x8, x8', x8b, x9]
    refine goC_loop (α := {q : Nat // q ≤ P.length}) (fun x => ⟨[(7, .ob 88 P.length), (9, .v (.int .i64 m)), (12, .sl 1 ((shareTo P m P.length).map iR)), (19, .v (.int .i64 f)), (20, .v (.int .i64 t)), (21, .v (.int .i64 (partT (sumTo P) f t x.1))), (22, .ob 880 (joinT P f t x.1).length), (23, .v (.int .i64 (partT (firstS P m) f t x.1))), (24, .v (.int .i64 x.1))], [(88, .row 3 1 (P.map iR) false), (880, .row 3 1 ((joinT P f t x.1).map iR) false)]⟩) (fun x => P.length - x.1) ⟨0, by omega⟩ [some 840] ?_ ?_
    · have e0 : ∀ h, partT h f t 0 = 0 := fun h => by unfold partT; rw [if_pos (by omega)]
      simp (maxSteps := 2000000) only [enA, ↓enP, Nat.reduceAdd, Nat.reduceMul, Nat.reduceSub, Nat.reduceLT, Nat.reduceLeDiff, Nat.reduceEqDiff, Nat.reduceBEq, ↓reduceIte, reduceCtorEq, fA, e0, joinT]
      try rfl
    intro x B3 hB3
    obtain ⟨q, hq⟩ := x
    simp only at hB3 ⊢
    have jl := joinT_len P f t q
    by_cases cq : q < P.length
    · have r1 : ((q : Int) < (P.length : Int)) = True := eq_true (by omega)
      have r1' : (q < P.length) = True := eq_true cq
      have eq' : IntKind.i64.wrap ((q : Int) + 1) = ((q + 1 : Nat) : Int) := wrap_id (by omega) (by omega)
      have n1 : nth (shareTo P m P.length) q = shareAt P m q := nth_share (by omega)
      have y0 : IntKind.i64.wrap ((t : Int) - 1) = ((t - 1 : Nat) : Int) := by rw [wrap_id (by omega) (by omega)]; omega
      by_cases k1 : q < f
      · have l1 : ((q : Int) < (f : Int)) = True := eq_true (by omega)
        have l1' : (q < f) = True := eq_true k1
        have js : joinT P f t (q + 1) = joinT P f t q ++ [nth P q] := by simp only [joinT]; rw [if_pos (.inl k1)]
        have ps : ∀ h, partT h f t (q + 1) = partT h f t q := fun h => by unfold partT; rw [if_pos (show q + 1 ≤ f by omega), if_pos (show q ≤ f by omega)]
        simp (maxSteps := 2000000) only [vcA, ↓vcP, ↓reduceIte, reduceCtorEq, Nat.reduceAdd, Nat.reduceMul, Nat.reduceSub, Nat.reduceLT, Nat.reduceLeDiff, Nat.reduceEqDiff, Nat.reduceBEq, Nat.reduceBNe, Nat.reduceGT, Nat.reduceDiv, Nat.reduceMod, Int.reduceAdd, Int.reduceSub, Int.reduceNeg, Int.reduceLT, Int.reduceLE, Int.reduceEq, Int.reduceToNat, fA, r1, r1', l1, l1', iR]
        refine ⟨⟨by omega, by simp only [maxLen]; omega⟩, fun _ => ?_⟩
        refine hB3 _ ⟨q + 1, by omega⟩ [some 1056] (by simp only; omega) rfl ?_
        simp (maxSteps := 2000000) only [enA, ↓enP, Nat.reduceAdd, Nat.reduceMul, Nat.reduceSub, Nat.reduceLT, Nat.reduceLeDiff, Nat.reduceEqDiff, Nat.reduceBEq, ↓reduceIte, reduceCtorEq, fA, eq', js, ps, List.map_append, List.length_append, iR]
        try rfl
      have l1 : ((q : Int) < (f : Int)) = False := eq_false (by omega)
      have l1' : (q < f) = False := eq_false k1
      by_cases k2 : q ≥ t
      · have l2 : ((q : Int) ≥ (t : Int)) = True := eq_true (by omega)
        have l2' : (t ≤ q) = True := eq_true k2
        have js : joinT P f t (q + 1) = joinT P f t q ++ [nth P q] := by simp only [joinT]; rw [if_pos (.inr k2)]
        have ps : ∀ h, partT h f t (q + 1) = partT h f t q := fun h => by unfold partT; rw [if_neg (show ¬ q + 1 ≤ f by omega), if_pos (show t ≤ q + 1 by omega), if_neg (show ¬ q ≤ f by omega), if_pos (show t ≤ q by omega)]
        simp (maxSteps := 2000000) only [vcA, ↓vcP, ↓reduceIte, reduceCtorEq, Nat.reduceAdd, Nat.reduceMul, Nat.reduceSub, Nat.reduceLT, Nat.reduceLeDiff, Nat.reduceEqDiff, Nat.reduceBEq, Nat.reduceBNe, Nat.reduceGT, Nat.reduceDiv, Nat.reduceMod, Int.reduceAdd, Int.reduceSub, Int.reduceNeg, Int.reduceLT, Int.reduceLE, Int.reduceEq, Int.reduceToNat, fA, r1, r1', l1, l1', l2, l2', iR]
        refine ⟨⟨by omega, by simp only [maxLen]; omega⟩, fun _ => ?_⟩
        refine hB3 _ ⟨q + 1, by omega⟩ [some 1056] (by simp only; omega) rfl ?_
        simp (maxSteps := 2000000) only [enA, ↓enP, Nat.reduceAdd, Nat.reduceMul, Nat.reduceSub, Nat.reduceLT, Nat.reduceLeDiff, Nat.reduceEqDiff, Nat.reduceBEq, ↓reduceIte, reduceCtorEq, fA, eq', js, ps, List.map_append, List.length_append, iR]
        try rfl
      have l2 : ((q : Int) ≥ (t : Int)) = False := eq_false (by omega)
      have l2' : (t ≤ q) = False := eq_false (by omega)
      have pa : ∀ h : Nat → Int, partT h f t (q + 1) = partT h f t q + (h (q + 1) - h q) := fun h => by
        unfold partT
        rw [if_neg (show ¬ q + 1 ≤ f by omega)]
        by_cases e1 : q ≤ f
        · have e2 : q = f := by omega
          rw [if_pos e1, e2]
          split
          · have : t = f + 1 := by omega
            rw [this]; omega
          · omega
        · rw [if_neg e1, if_neg (show ¬ t ≤ q by omega)]
          split
          · have : t = q + 1 := by omega
            rw [this]; omega
          · omega
      have sb := sumTo_bound hbt (i := q) (by omega)
      have sb1 := sumTo_bound hbt (i := q + 1) (by omega)
      have sbf := sumTo_bound hbt (i := f) (by omega)
      have fb := firstS_bd hok (i := q) (by omega)
      have fb1 := firstS_bd hok (i := q + 1) (by omega)
      have fbf := firstS_bd hok (i := f) (by omega)
      have pS : partT (sumTo P) f t (q + 1) = sumTo P (q + 1) - sumTo P f := by
        unfold partT
        rw [if_neg (by omega)]
        split
        · have : t = q + 1 := by omega
          rw [this]
        · rfl
      have pF : partT (firstS P m) f t (q + 1) = firstS P m (q + 1) - firstS P m f := by
        unfold partT
        rw [if_neg (by omega)]
        split
        · have : t = q + 1 := by omega
          rw [this]
        · rfl
      have es : sumTo P (q + 1) = sumTo P q + nth P q := rfl
      have paS := pa (sumTo P)
      have paF := pa (firstS P m)
      have w2 : IntKind.i64.wrap (partT (sumTo P) f t q + nth P q) = partT (sumTo P) f t (q + 1) := by rw [wrap_id (by omega) (by omega)]; omega
      have w3 : IntKind.i64.wrap (partT (firstS P m) f t q + shareAt P m q) = partT (firstS P m) f t (q + 1) := by rw [shareAt_eq, wrap_id (by omega) (by omega)]; omega
      by_cases k3 : q + 1 = t
      · have l3 : ((q : Int) == ((t - 1 : Nat) : Int)) = true := by rw [beq_iff_eq]; omega
        have js : joinT P f t (q + 1) = joinT P f t q ++ [partT (sumTo P) f t (q + 1)] := by simp only [joinT]; rw [if_neg (by omega), if_pos k3, pS, k3]
        simp (maxSteps := 2000000) only [vcA, ↓vcP, ↓reduceIte, reduceCtorEq, Nat.reduceAdd, Nat.reduceMul, Nat.reduceSub, Nat.reduceLT, Nat.reduceLeDiff, Nat.reduceEqDiff, Nat.reduceBEq, Nat.reduceBNe, Nat.reduceGT, Nat.reduceDiv, Nat.reduceMod, Int.reduceAdd, Int.reduceSub, Int.reduceNeg, Int.reduceLT, Int.reduceLE, Int.reduceEq, Int.reduceToNat, fA, r1, r1', l1, l1', l2, l2', sl1, n1, iR, y0, l3, w2, w3]
        try repeat (first | refine ⟨by kernel_rfl, ?_⟩ | refine ⟨⟨by kernel_rfl, by kernel_rfl⟩, ?_⟩ | refine ⟨⟨by kernel_rfl, by kernel_rfl, by kernel_rfl⟩, ?_⟩ | refine ⟨⟨by kernel_rfl, by kernel_rfl, by kernel_rfl, by kernel_rfl⟩, ?_⟩ | refine ⟨⟨by kernel_rfl, by kernel_rfl, by kernel_rfl, by kernel_rfl, by kernel_rfl⟩, ?_⟩ | refine ⟨⟨by kernel_rfl, by kernel_rfl, by kernel_rfl, by kernel_rfl, by kernel_rfl, by kernel_rfl⟩, ?_⟩ | refine ⟨⟨by kernel_rfl, by kernel_rfl, by kernel_rfl, by kernel_rfl, by kernel_rfl, by kernel_rfl, by kernel_rfl⟩, ?_⟩ | refine ⟨⟨by kernel_rfl, by kernel_rfl, by kernel_rfl, by kernel_rfl, by kernel_rfl, by kernel_rfl, by kernel_rfl, by kernel_rfl⟩, ?_⟩ | refine ⟨⟨by kernel_rfl, by kernel_rfl, by kernel_rfl, by kernel_rfl, by kernel_rfl, by kernel_rfl, by kernel_rfl, by kernel_rfl, by kernel_rfl⟩, ?_⟩ | refine ⟨⟨by kernel_rfl, by kernel_rfl, by kernel_rfl, by kernel_rfl, by kernel_rfl, by kernel_rfl, by kernel_rfl, by kernel_rfl, by kernel_rfl, by kernel_rfl⟩, ?_⟩ | refine ⟨⟨by kernel_rfl, by kernel_rfl, by kernel_rfl, by kernel_rfl, by kernel_rfl, by kernel_rfl, by kernel_rfl, by kernel_rfl, by kernel_rfl, by kernel_rfl, by kernel_rfl⟩, ?_⟩ | refine ⟨⟨by kernel_rfl, by kernel_rfl, by kernel_rfl, by kernel_rfl, by kernel_rfl, by kernel_rfl, by kernel_rfl, by kernel_rfl, by kernel_rfl, by kernel_rfl, by kernel_rfl, by kernel_rfl⟩, ?_⟩ | refine ⟨⟨by kernel_rfl, by kernel_rfl, by kernel_rfl, by kernel_rfl, by kernel_rfl, by kernel_rfl, by kernel_rfl, by kernel_rfl, by kernel_rfl, by kernel_rfl, by kernel_rfl, by kernel_rfl, by kernel_rfl⟩, ?_⟩)
        refine ⟨⟨by omega, by simp only [maxLen]; omega⟩, fun _ => ?_⟩
        refine hB3 _ ⟨q + 1, by omega⟩ [some 1176] (by simp only; omega) rfl ?_
        simp (maxSteps := 2000000) only [enA, ↓enP, Nat.reduceAdd, Nat.reduceMul, Nat.reduceSub, Nat.reduceLT, Nat.reduceLeDiff, Nat.reduceEqDiff, Nat.reduceBEq, ↓reduceIte, reduceCtorEq, fA, eq', js, w2, w3, List.map_append, List.length_append, iR]
        try rfl
      · have l3 : ((q : Int) == ((t - 1 : Nat) : Int)) = false := by rw [beq_eq_false_iff_ne]; omega
        have js : joinT P f t (q + 1) = joinT P f t q := by simp only [joinT]; rw [if_neg (by omega), if_neg k3]
        simp (maxSteps := 2000000) only [vcA, ↓vcP, ↓reduceIte, reduceCtorEq, Nat.reduceAdd, Nat.reduceMul, Nat.reduceSub, Nat.reduceLT, Nat.reduceLeDiff, Nat.reduceEqDiff, Nat.reduceBEq, Nat.reduceBNe, Nat.reduceGT, Nat.reduceDiv, Nat.reduceMod, Int.reduceAdd, Int.reduceSub, Int.reduceNeg, Int.reduceLT, Int.reduceLE, Int.reduceEq, Int.reduceToNat, fA, r1, r1', l1, l1', l2, l2', sl1, n1, iR, y0, l3, w2, w3]
        try repeat (first | refine ⟨by kernel_rfl, ?_⟩ | refine ⟨⟨by kernel_rfl, by kernel_rfl⟩, ?_⟩ | refine ⟨⟨by kernel_rfl, by kernel_rfl, by kernel_rfl⟩, ?_⟩ | refine ⟨⟨by kernel_rfl, by kernel_rfl, by kernel_rfl, by kernel_rfl⟩, ?_⟩ | refine ⟨⟨by kernel_rfl, by kernel_rfl, by kernel_rfl, by kernel_rfl, by kernel_rfl⟩, ?_⟩ | refine ⟨⟨by kernel_rfl, by kernel_rfl, by kernel_rfl, by kernel_rfl, by kernel_rfl, by kernel_rfl⟩, ?_⟩ | refine ⟨⟨by kernel_rfl, by kernel_rfl, by kernel_rfl, by kernel_rfl, by kernel_rfl, by kernel_rfl, by kernel_rfl⟩, ?_⟩ | refine ⟨⟨by kernel_rfl, by kernel_rfl, by kernel_rfl, by kernel_rfl, by kernel_rfl, by kernel_rfl, by kernel_rfl, by kernel_rfl⟩, ?_⟩ | refine ⟨⟨by kernel_rfl, by kernel_rfl, by kernel_rfl, by kernel_rfl, by kernel_rfl, by kernel_rfl, by kernel_rfl, by kernel_rfl, by kernel_rfl⟩, ?_⟩ | refine ⟨⟨by kernel_rfl, by kernel_rfl, by kernel_rfl, by kernel_rfl, by kernel_rfl, by kernel_rfl, by kernel_rfl, by kernel_rfl, by kernel_rfl, by kernel_rfl⟩, ?_⟩ | refine ⟨⟨by kernel_rfl, by kernel_rfl, by kernel_rfl, by kernel_rfl, by kernel_rfl, by kernel_rfl, by kernel_rfl, by kernel_rfl, by kernel_rfl, by kernel_rfl, by kernel_rfl⟩, ?_⟩ | refine ⟨⟨by kernel_rfl, by kernel_rfl, by kernel_rfl, by kernel_rfl, by kernel_rfl, by kernel_rfl, by kernel_rfl, by kernel_rfl, by kernel_rfl, by kernel_rfl, by kernel_rfl, by kernel_rfl⟩, ?_⟩ | refine ⟨⟨by kernel_rfl, by kernel_rfl, by kernel_rfl, by kernel_rfl, by kernel_rfl, by kernel_rfl, by kernel_rfl, by kernel_rfl, by kernel_rfl, by kernel_rfl, by kernel_rfl, by kernel_rfl, by kernel_rfl⟩, ?_⟩)
        refine hB3 _ ⟨q + 1, by omega⟩ [some 880] (by simp only; omega) rfl ?_
        simp (maxSteps := 2000000) only [enA, ↓enP, Nat.reduceAdd, Nat.reduceMul, Nat.reduceSub, Nat.reduceLT, Nat.reduceLeDiff, Nat.reduceEqDiff, Nat.reduceBEq, ↓reduceIte, reduceCtorEq, fA, eq', js, w2, w3]
        try rfl
    obtain rfl : q = P.length := by omega
    have r1 : ((P.length : Int) < (P.length : Int)) = False := eq_false (by omega)
    have r1' : (P.length < P.length) = False := eq_false cq
    have htl : t ≤ P.length := by omega
    have hft : f < t := by omega
    have pS : partT (sumTo P) f t P.length = sumTo P t - sumTo P f := by unfold partT; rw [if_neg (by omega), if_pos htl]
    have pF : partT (firstS P m) f t P.length = firstS P m t - firstS P m f := by unfold partT; rw [if_neg (by omega), if_pos htl]
    rw [pS, pF]
    by_cases k5 : sumTo P t - sumTo P f > 1000
    · have l5 : (sumTo P t - sumTo P f > 1000) = True := eq_true k5
      simp (maxSteps := 2000000) only [vcA, ↓vcP, ↓reduceIte, reduceCtorEq, Nat.reduceAdd, Nat.reduceMul, Nat.reduceSub, Nat.reduceLT, Nat.reduceLeDiff, Nat.reduceEqDiff, Nat.reduceBEq, Nat.reduceBNe, Nat.reduceGT, Nat.reduceDiv, Nat.reduceMod, Int.reduceAdd, Int.reduceSub, Int.reduceNeg, Int.reduceLT, Int.reduceLE, Int.reduceEq, Int.reduceToNat, fA, r1, r1', l5]
      refine onF_data known_spec ?_ ?_
      · simp (maxSteps := 2000000) only [okA, ↓okP, Nat.reduceAdd, Nat.reduceMul, Nat.reduceSub, Nat.reduceLT, Nat.reduceLeDiff, Nat.reduceEqDiff, Nat.reduceBEq, ↓reduceIte, reduceCtorEq]
      simp (maxSteps := 2000000) only [vcA, ↓vcP, ↓reduceIte, reduceCtorEq, Nat.reduceAdd, Nat.reduceMul, Nat.reduceSub, Nat.reduceLT, Nat.reduceLeDiff, Nat.reduceEqDiff, Nat.reduceBEq, Nat.reduceBNe, Nat.reduceGT, Nat.reduceDiv, Nat.reduceMod, Int.reduceAdd, Int.reduceSub, Int.reduceNeg, Int.reduceLT, Int.reduceLE, Int.reduceEq, Int.reduceToNat, fA]
      refine hR _ (fin_of0 ?_)
      simp (maxSteps := 2000000) only [enA, ↓enP, Nat.reduceAdd, Nat.reduceMul, Nat.reduceSub, Nat.reduceLT, Nat.reduceLeDiff, Nat.reduceEqDiff, Nat.reduceBEq, ↓reduceIte, reduceCtorEq, fA]
    have l5 : (sumTo P t - sumTo P f > 1000) = False := eq_false k5
    have Jl := joined_len hft htl
    have Jb := joined_ok hft htl hbt (by omega)
    have Js := joined_share hft htl m
    obtain ⟨J, hJ⟩ : ∃ J, J = joinT P f t P.length := ⟨_, rfl⟩
    rw [← hJ] at Jl Jb Js jl
    rw [← hJ]
    obtain ⟨hG1, hG2⟩ := shareErr0 (P := J) (m := m) (by omega) (by omega) Jb (by omega)
    have slJ : (shareTo J m J.length).length = J.length := shareTo_length J m _
    have nJ : nth (shareTo J m J.length) f = shareAt J m f := nth_share (by omega)
    have v1 : ((f : Int) < (J.length : Int)) = True := eq_true (by omega)
    have v1' : (f < J.length) = True := eq_true (by omega)
    simp (maxSteps := 2000000) only [vcA, ↓vcP, ↓reduceIte, reduceCtorEq, Nat.reduceAdd, Nat.reduceMul, Nat.reduceSub, Nat.reduceLT, Nat.reduceLeDiff, Nat.reduceEqDiff, Nat.reduceBEq, Nat.reduceBNe, Nat.reduceGT, Nat.reduceDiv, Nat.reduceMod, Int.reduceAdd, Int.reduceSub, Int.reduceNeg, Int.reduceLT, Int.reduceLE, Int.reduceEq, Int.reduceToNat, fA, r1, r1', l5]
    refine onF_call (shareF_spec J m (by omega)) [880] [] [] ?_ ?_
    · simp (maxSteps := 2000000) only [okA, ↓okP, Nat.reduceAdd, Nat.reduceMul, Nat.reduceSub, Nat.reduceLT, Nat.reduceLeDiff, Nat.reduceEqDiff, Nat.reduceBEq, ↓reduceIte, reduceCtorEq, iR]
    rw [hG1, hG2]
    simp (maxSteps := 2000000) only [vcA, ↓vcP, ↓reduceIte, reduceCtorEq, Nat.reduceAdd, Nat.reduceMul, Nat.reduceSub, Nat.reduceLT, Nat.reduceLeDiff, Nat.reduceEqDiff, Nat.reduceBEq, Nat.reduceBNe, Nat.reduceGT, Nat.reduceDiv, Nat.reduceMod, Int.reduceAdd, Int.reduceSub, Int.reduceNeg, Int.reduceLT, Int.reduceLE, Int.reduceEq, Int.reduceToNat, fA, slJ, g0, be, v1, v1', nJ, Js, iR]
    refine onF_data known_spec ?_ ?_
    · simp (maxSteps := 2000000) only [okA, ↓okP, Nat.reduceAdd, Nat.reduceMul, Nat.reduceSub, Nat.reduceLT, Nat.reduceLeDiff, Nat.reduceEqDiff, Nat.reduceBEq, ↓reduceIte, reduceCtorEq]
    simp (maxSteps := 2000000) only [vcA, ↓vcP, ↓reduceIte, reduceCtorEq, Nat.reduceAdd, Nat.reduceMul, Nat.reduceSub, Nat.reduceLT, Nat.reduceLeDiff, Nat.reduceEqDiff, Nat.reduceBEq, Nat.reduceBNe, Nat.reduceGT, Nat.reduceDiv, Nat.reduceMod, Int.reduceAdd, Int.reduceSub, Int.reduceNeg, Int.reduceLT, Int.reduceLE, Int.reduceEq, Int.reduceToNat, fA]
    refine hR _ (fin_of0 ?_)
    simp (maxSteps := 2000000) only [enA, ↓enP, Nat.reduceAdd, Nat.reduceMul, Nat.reduceSub, Nat.reduceLT, Nat.reduceLeDiff, Nat.reduceEqDiff, Nat.reduceBEq, ↓reduceIte, reduceCtorEq, fA, be]
end Go.Proofs.Ytpnmbpbcgifkeaa.Ab.T12
