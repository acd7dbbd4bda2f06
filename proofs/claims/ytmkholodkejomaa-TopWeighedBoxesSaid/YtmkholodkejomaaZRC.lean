/- Whose a box can be; what boxes of a carrier can have. -/
import Derived.Test.YtmkholodkejomaaZQ7
namespace Go.Proofs.Ytmkholodkejomaa.Ab.T08
open Go Go.RowKit
set_option linter.unusedVariables false
set_option linter.unusedSimpArgs false
set_option maxRecDepth 100000
set_option pp.maxSteps 1000000
set_option pp.deepTerms true
theorem or_at {a c : Nat} (ha : a < 8) (hc : c < 3) : bits .or .i64 (a : Int) (IntKind.i64.wrap (1 * 2 ^ min c IntKind.i64.bits)) = ((a ||| 2 ^ c : Nat) : Int) ∧ a ||| 2 ^ c < 8 := by
  rcases (by omega : a = 0 ∨ a = 1 ∨ a = 2 ∨ a = 3 ∨ a = 4 ∨ a = 5 ∨ a = 6 ∨ a = 7) with rfl | rfl | rfl | rfl | rfl | rfl | rfl | rfl <;> rcases (by omega : c = 0 ∨ c = 1 ∨ c = 2) with rfl | rfl | rfl <;> exact ⟨by decide +kernel, by decide⟩
/-- Whose a box is in the first ways, by bits. -/
def orW (W : List (List Int)) (j : Nat) : Nat → Nat
  | 0 => 0
  | k + 1 => orW W j k ||| 2 ^ (nth (nth W k) j).toNat
def canP (W : List (List Int)) (n k t : Nat) : List Int := (List.range n).map fun j => ((if j < t then orW W j (k + 1) else orW W j k : Nat) : Int)
theorem canP_len (W : List (List Int)) (n k t : Nat) : (canP W n k t).length = n := by simp [canP]
theorem canP_end (W : List (List Int)) (n k : Nat) : canP W n k n = canP W n (k + 1) 0 := by
  unfold canP
  apply List.map_congr_left
  intro j hj
  have := List.mem_range.1 hj
  rw [if_pos this, if_neg (by omega)]
theorem canP_set {W : List (List Int)} {n k t : Nat} (ht : t < n) : (canP W n k t).set t ((orW W t (k + 1) : Nat) : Int) = canP W n k (t + 1) := by
  apply List.ext_getElem?
  intro j
  unfold canP
  rw [List.getElem?_set, List.length_map, List.length_range, List.getElem?_map, List.getElem?_map]
  by_cases e : t = j
  · subst e
    rw [if_pos rfl, if_pos ht, List.getElem?_range ht]
    simp only [Option.map_some]
    rw [if_pos (by omega)]
  · rw [if_neg e]
    by_cases h : j < n
    · rw [List.getElem?_range h]
      simp only [Option.map_some]
      by_cases h2 : j < t
      · rw [if_pos h2, if_pos (by omega)]
      · rw [if_neg h2, if_neg (by omega)]
    · rw [List.getElem?_eq_none (by simp; omega)]
      rfl
theorem rep_can (W : List (List Int)) (n : Nat) : List.replicate n [DV.v (.int .i64 0)] = (canP W n 0 0).map iR := by
  refine (List.eq_replicate_iff.2 ⟨by simp [canP], fun b hb => ?_⟩).symm
  unfold canP at hb
  rw [List.map_map] at hb
  obtain ⟨c, _, rfl⟩ := List.mem_map.1 hb
  rfl
theorem orW_lt {W : List (List Int)} {j : Nat} : ∀ {k : Nat}, (∀ i, i < k → 0 ≤ nth (nth W i) j ∧ nth (nth W i) j < 3) → orW W j k < 8
  | 0, _ => by simp [orW]
  | k + 1, h => by
    have h1 := orW_lt (k := k) fun i hi => h i (by omega)
    have h2 := h k (by omega)
    exact (or_at h1 (c := (nth (nth W k) j).toNat) (by omega)).2
set_option maxHeartbeats 4000000 in
theorem can0_spec {l : Ld} {K : Nat} (hl : l.Ok K) (hne : allL l ≠ []) : SpecG Try.prog 13 [.agg [.sl 1 (l.boxes.map boxR), .sl 2 (l.bills.map biR)]] [] (.tup [.ob 0 l.boxes.length, .v (.int .i64 0)]) [.row 3 1 ((canP (allL l) l.boxes.length (allL l).length 0).map iR) false] := by
  have g0 : ((0 : Int) != 0) = false := rfl
  have hnb := hl.nb
  have hnc := hl.nc
  have hlen := allL_len hl
  have hop := open_spec hl hne
  obtain ⟨W, hW⟩ : ∃ W, W = allL l := ⟨_, rfl⟩
  have hm : ∀ i, i < W.length → (nth W i).length = l.boxes.length ∧ ∀ j, j < l.boxes.length → 0 ≤ nth (nth W i) j ∧ nth (nth W i) j < 3 := fun i hi => by
    rw [hW] at hi ⊢
    obtain ⟨h1, h2, _⟩ := mem_all (nth_mem hi)
    exact ⟨h1, fun j hj => by have := h2 j (by omega); omega⟩
  rw [← hW] at hlen hop ⊢
  obtain ⟨n, hn⟩ : ∃ n, n = l.boxes.length := ⟨_, rfl⟩
  refine spec_go (N := 50) (rs := [.tmp 2, .tmp 3]) (eq := eqs) rfl rfl fun_13 rfl (by kernel_rfl) (by kernel_rfl) (by simp) (by simp) (by simp) (by simp) fun R hR => ?_
  simp (maxSteps := 2000000) only [vcA, ↓vcP, ↓reduceIte, reduceCtorEq, Nat.reduceAdd, Nat.reduceMul, Nat.reduceSub, Nat.reduceLT, Nat.reduceLeDiff, Nat.reduceEqDiff, Nat.reduceBEq, Nat.reduceBNe, Nat.reduceGT, Nat.reduceDiv, Nat.reduceMod, Int.reduceAdd, Int.reduceSub, Int.reduceNeg, Int.reduceLT, Int.reduceLE, Int.reduceEq, Int.reduceToNat, fA]
  refine onF_data hop ?_ ?_
  · simp (maxSteps := 2000000) only [okA, ↓okP, Nat.reduceAdd, Nat.reduceMul, Nat.reduceSub, Nat.reduceLT, Nat.reduceLeDiff, Nat.reduceEqDiff, Nat.reduceBEq, ↓reduceIte, reduceCtorEq]
  simp (maxSteps := 2000000) only [vcA, ↓vcP, ↓reduceIte, reduceCtorEq, Nat.reduceAdd, Nat.reduceMul, Nat.reduceSub, Nat.reduceLT, Nat.reduceLeDiff, Nat.reduceEqDiff, Nat.reduceBEq, Nat.reduceBNe, Nat.reduceGT, Nat.reduceDiv, Nat.reduceMod, Int.reduceAdd, Int.reduceSub, Int.reduceNeg, Int.reduceLT, Int.reduceLE, Int.reduceEq, Int.reduceToNat, fA, g0]
  refine ⟨⟨by omega, by omega, by simp only [maxLen]; omega⟩, fun _ => ?_⟩
  try simp (maxSteps := 2000000) only [vcA, ↓vcP, ↓reduceIte, reduceCtorEq, Nat.reduceAdd, Nat.reduceMul, Nat.reduceSub, Nat.reduceLT, Nat.reduceLeDiff, Nat.reduceEqDiff, Nat.reduceBEq, Nat.reduceBNe, Nat.reduceGT, Nat.reduceDiv, Nat.reduceMod, Int.reduceAdd, Int.reduceSub, Int.reduceNeg, Int.reduceLT, Int.reduceLE, Int.reduceEq, Int.reduceToNat, fA]
  have hrep := rep_can W l.boxes.length
  try simp only [hrep]
  refine goC_loop (α := {k : Nat // k ≤ W.length}) (fun y => ⟨[(7, .ob 160 l.boxes.length), (26, .sl 1 (W.map wyR)), (27, .v (.int .i64 W.length)), (28, .v (.int .i64 y.1))], [(160, .row 3 1 ((canP W l.boxes.length y.1 0).map iR) false)]⟩) (fun y => W.length - y.1) ⟨0, by omega⟩ [] ?_ ?_
  · simp (maxSteps := 2000000) only [enA, ↓enP, Nat.reduceAdd, Nat.reduceMul, Nat.reduceSub, Nat.reduceLT, Nat.reduceLeDiff, Nat.reduceEqDiff, Nat.reduceBEq, ↓reduceIte, reduceCtorEq, fA]
    try rfl
  intro y B hB
  obtain ⟨k, hk⟩ := y
  simp only at hB ⊢
  by_cases ck : k < W.length
  · have p1 : ((k : Int) < (W.length : Int)) = True := eq_true (by omega)
    have p1' : (k < W.length) = True := eq_true ck
    have ek : IntKind.i64.wrap ((k : Int) + 1) = ((k + 1 : Nat) : Int) := wrap_id (by omega) (by omega)
    obtain ⟨m1, m2⟩ := hm k ck
    obtain ⟨w, hw⟩ : ∃ w, w = nth W k := ⟨_, rfl⟩
    rw [← hw] at m1 m2
    have hw' : nth W k = w := hw.symm
    simp (maxSteps := 2000000) only [vcA, ↓vcP, ↓reduceIte, reduceCtorEq, Nat.reduceAdd, Nat.reduceMul, Nat.reduceSub, Nat.reduceLT, Nat.reduceLeDiff, Nat.reduceEqDiff, Nat.reduceBEq, Nat.reduceBNe, Nat.reduceGT, Nat.reduceDiv, Nat.reduceMod, Int.reduceAdd, Int.reduceSub, Int.reduceNeg, Int.reduceLT, Int.reduceLE, Int.reduceEq, Int.reduceToNat, fA, p1, p1', wyR, hw']
    try repeat (first | refine ⟨by kernel_rfl, ?_⟩ | refine ⟨⟨by kernel_rfl, by kernel_rfl⟩, ?_⟩ | refine ⟨⟨by kernel_rfl, by kernel_rfl, by kernel_rfl⟩, ?_⟩ | refine ⟨⟨by kernel_rfl, by kernel_rfl, by kernel_rfl, by kernel_rfl⟩, ?_⟩ | refine ⟨⟨by kernel_rfl, by kernel_rfl, by kernel_rfl, by kernel_rfl, by kernel_rfl⟩, ?_⟩ | refine ⟨⟨by kernel_rfl, by kernel_rfl, by kernel_rfl, by kernel_rfl, by kernel_rfl, by kernel_rfl⟩, ?_⟩ | refine ⟨⟨by kernel_rfl, by kernel_rfl, by kernel_rfl, by kernel_rfl, by kernel_rfl, by kernel_rfl, by kernel_rfl⟩, ?_⟩ | refine ⟨⟨by kernel_rfl, by kernel_rfl, by kernel_rfl, by kernel_rfl, by kernel_rfl, by kernel_rfl, by kernel_rfl, by kernel_rfl⟩, ?_⟩ | refine ⟨⟨by kernel_rfl, by kernel_rfl, by kernel_rfl, by kernel_rfl, by kernel_rfl, by kernel_rfl, by kernel_rfl, by kernel_rfl, by kernel_rfl⟩, ?_⟩ | refine ⟨⟨by kernel_rfl, by kernel_rfl, by kernel_rfl, by kernel_rfl, by kernel_rfl, by kernel_rfl, by kernel_rfl, by kernel_rfl, by kernel_rfl, by kernel_rfl⟩, ?_⟩ | refine ⟨⟨by kernel_rfl, by kernel_rfl, by kernel_rfl, by kernel_rfl, by kernel_rfl, by kernel_rfl, by kernel_rfl, by kernel_rfl, by kernel_rfl, by kernel_rfl, by kernel_rfl⟩, ?_⟩ | refine ⟨⟨by kernel_rfl, by kernel_rfl, by kernel_rfl, by kernel_rfl, by kernel_rfl, by kernel_rfl, by kernel_rfl, by kernel_rfl, by kernel_rfl, by kernel_rfl, by kernel_rfl, by kernel_rfl⟩, ?_⟩ | refine ⟨⟨by kernel_rfl, by kernel_rfl, by kernel_rfl, by kernel_rfl, by kernel_rfl, by kernel_rfl, by kernel_rfl, by kernel_rfl, by kernel_rfl, by kernel_rfl, by kernel_rfl, by kernel_rfl, by kernel_rfl⟩, ?_⟩)
    refine goC_loop (α := {t : Nat // t ≤ l.boxes.length}) (fun y => ⟨[(7, .ob 160 l.boxes.length), (26, .sl 1 (W.map wyR)), (27, .v (.int .i64 W.length)), (28, .v (.int .i64 k)), (32, .sl 1 (w.map iR)), (33, .v (.int .i64 w.length)), (34, .v (.int .i64 y.1))], [(160, .row 3 1 ((canP W l.boxes.length k y.1).map iR) false)]⟩) (fun y => l.boxes.length - y.1) ⟨0, by omega⟩ [] ?_ ?_
    · simp (maxSteps := 2000000) only [enA, ↓enP, Nat.reduceAdd, Nat.reduceMul, Nat.reduceSub, Nat.reduceLT, Nat.reduceLeDiff, Nat.reduceEqDiff, Nat.reduceBEq, ↓reduceIte, reduceCtorEq, fA]
      try rfl
    intro y B2 hB2
    obtain ⟨t, ht⟩ := y
    simp only at hB2 ⊢
    have cl := canP_len W l.boxes.length k t
    by_cases ct : t < l.boxes.length
    · have q1 : ((t : Int) < (w.length : Int)) = True := eq_true (by omega)
      have q1' : (t < w.length) = True := eq_true (by omega)
      have q2 : (t < l.boxes.length) = True := eq_true ct
      have q2' : ((t : Int) < (l.boxes.length : Int)) = True := eq_true (by omega)
      have et : IntKind.i64.wrap ((t : Int) + 1) = ((t + 1 : Nat) : Int) := wrap_id (by omega) (by omega)
      have h3 := m2 t ct
      obtain ⟨c, hc⟩ : ∃ c : Nat, nth w t = (c : Int) := ⟨(nth w t).toNat, by omega⟩
      have c0 : ((0 : Int) ≤ (c : Int)) = True := eq_true (by omega)
      have hnc : nth (canP W l.boxes.length k t) t = ((orW W t k : Nat) : Int) := by
        unfold canP
        rw [nth_rng ct, if_neg (by omega)]
      have hlt : orW W t k < 8 := orW_lt fun i hi => (hm i (by omega)).2 t ct
      obtain ⟨o1, _⟩ := or_at hlt (c := c) (by omega)
      have o2 : orW W t (k + 1) = orW W t k ||| 2 ^ c := by
        rw [orW, ← hw, hc]
        rfl
      rw [← o2] at o1
      have tc : ((c : Int)).toNat = c := by omega
      have hpt := put_iR (canP W l.boxes.length k t) t (by omega) ((orW W t (k + 1) : Nat) : Int)
      have hst := set_iR (canP W l.boxes.length k t) t ((orW W t (k + 1) : Nat) : Int)
      rw [canP_set ct] at hst
      simp (maxSteps := 2000000) only [vcA, ↓vcP, ↓reduceIte, reduceCtorEq, Nat.reduceAdd, Nat.reduceMul, Nat.reduceSub, Nat.reduceLT, Nat.reduceLeDiff, Nat.reduceEqDiff, Nat.reduceBEq, Nat.reduceBNe, Nat.reduceGT, Nat.reduceDiv, Nat.reduceMod, Int.reduceAdd, Int.reduceSub, Int.reduceNeg, Int.reduceLT, Int.reduceLE, Int.reduceEq, Int.reduceToNat, fA, q1, q1', q2, q2', iR, hc, c0, cl, hnc, tc, o1, hpt, hst]
      try repeat (first | refine ⟨by kernel_rfl, ?_⟩ | refine ⟨⟨by kernel_rfl, by kernel_rfl⟩, ?_⟩ | refine ⟨⟨by kernel_rfl, by kernel_rfl, by kernel_rfl⟩, ?_⟩ | refine ⟨⟨by kernel_rfl, by kernel_rfl, by kernel_rfl, by kernel_rfl⟩, ?_⟩ | refine ⟨⟨by kernel_rfl, by kernel_rfl, by kernel_rfl, by kernel_rfl, by kernel_rfl⟩, ?_⟩ | refine ⟨⟨by kernel_rfl, by kernel_rfl, by kernel_rfl, by kernel_rfl, by kernel_rfl, by kernel_rfl⟩, ?_⟩ | refine ⟨⟨by kernel_rfl, by kernel_rfl, by kernel_rfl, by kernel_rfl, by kernel_rfl, by kernel_rfl, by kernel_rfl⟩, ?_⟩ | refine ⟨⟨by kernel_rfl, by kernel_rfl, by kernel_rfl, by kernel_rfl, by kernel_rfl, by kernel_rfl, by kernel_rfl, by kernel_rfl⟩, ?_⟩ | refine ⟨⟨by kernel_rfl, by kernel_rfl, by kernel_rfl, by kernel_rfl, by kernel_rfl, by kernel_rfl, by kernel_rfl, by kernel_rfl, by kernel_rfl⟩, ?_⟩ | refine ⟨⟨by kernel_rfl, by kernel_rfl, by kernel_rfl, by kernel_rfl, by kernel_rfl, by kernel_rfl, by kernel_rfl, by kernel_rfl, by kernel_rfl, by kernel_rfl⟩, ?_⟩ | refine ⟨⟨by kernel_rfl, by kernel_rfl, by kernel_rfl, by kernel_rfl, by kernel_rfl, by kernel_rfl, by kernel_rfl, by kernel_rfl, by kernel_rfl, by kernel_rfl, by kernel_rfl⟩, ?_⟩ | refine ⟨⟨by kernel_rfl, by kernel_rfl, by kernel_rfl, by kernel_rfl, by kernel_rfl, by kernel_rfl, by kernel_rfl, by kernel_rfl, by kernel_rfl, by kernel_rfl, by kernel_rfl, by kernel_rfl⟩, ?_⟩ | refine ⟨⟨by kernel_rfl, by kernel_rfl, by kernel_rfl, by kernel_rfl, by kernel_rfl, by kernel_rfl, by kernel_rfl, by kernel_rfl, by kernel_rfl, by kernel_rfl, by kernel_rfl, by kernel_rfl, by kernel_rfl⟩, ?_⟩)
      refine hB2 _ ⟨t + 1, by omega⟩ [] (by simp only; omega) rfl ?_
      simp (maxSteps := 2000000) only [enA, ↓enP, Nat.reduceAdd, Nat.reduceMul, Nat.reduceSub, Nat.reduceLT, Nat.reduceLeDiff, Nat.reduceEqDiff, Nat.reduceBEq, ↓reduceIte, reduceCtorEq, fA, et]
      try rfl
    obtain rfl : t = l.boxes.length := by omega
    have q1 : ((l.boxes.length : Int) < (w.length : Int)) = False := eq_false (by omega)
    have q1' : (l.boxes.length < w.length) = False := eq_false (by omega)
    have ce := canP_end W l.boxes.length k
    simp (maxSteps := 2000000) only [vcA, ↓vcP, ↓reduceIte, reduceCtorEq, Nat.reduceAdd, Nat.reduceMul, Nat.reduceSub, Nat.reduceLT, Nat.reduceLeDiff, Nat.reduceEqDiff, Nat.reduceBEq, Nat.reduceBNe, Nat.reduceGT, Nat.reduceDiv, Nat.reduceMod, Int.reduceAdd, Int.reduceSub, Int.reduceNeg, Int.reduceLT, Int.reduceLE, Int.reduceEq, Int.reduceToNat, fA, q1, q1']
    refine hB _ ⟨k + 1, by omega⟩ [] (by simp only; omega) rfl ?_
    simp (maxSteps := 2000000) only [enA, ↓enP, Nat.reduceAdd, Nat.reduceMul, Nat.reduceSub, Nat.reduceLT, Nat.reduceLeDiff, Nat.reduceEqDiff, Nat.reduceBEq, ↓reduceIte, reduceCtorEq, fA, ek, ce]
    try rfl
  obtain rfl : k = W.length := by omega
  have p1 : ((W.length : Int) < (W.length : Int)) = False := eq_false (by omega)
  have p1' : (W.length < W.length) = False := eq_false ck
  simp (maxSteps := 2000000) only [vcA, ↓vcP, ↓reduceIte, reduceCtorEq, Nat.reduceAdd, Nat.reduceMul, Nat.reduceSub, Nat.reduceLT, Nat.reduceLeDiff, Nat.reduceEqDiff, Nat.reduceBEq, Nat.reduceBNe, Nat.reduceGT, Nat.reduceDiv, Nat.reduceMod, Int.reduceAdd, Int.reduceSub, Int.reduceNeg, Int.reduceLT, Int.reduceLE, Int.reduceEq, Int.reduceToNat, fA, p1, p1']
  refine hR _ (fin_of1 [some 160] ?_)
  simp (maxSteps := 2000000) only [enA, ↓enP, Nat.reduceAdd, Nat.reduceMul, Nat.reduceSub, Nat.reduceLT, Nat.reduceLeDiff, Nat.reduceEqDiff, Nat.reduceBEq, ↓reduceIte, reduceCtorEq, fA]
theorem can_spec {l : Ld} {K : Nat} (hl : l.Ok K) (hne : allL l ≠ []) : SpecF Try.prog 13 [.agg [.sl 1 (l.boxes.map boxR), .sl 2 (l.bills.map biR)]] (.tup [.sl 1 ((canP (allL l) l.boxes.length (allL l).length 0).map iR), .v (.int .i64 0)]) [] := (can0_spec hl hne).frz
theorem orW_bit {W : List (List Int)} {j : Nat} (hm : ∀ i, i < W.length → 0 ≤ nth (nth W i) j ∧ nth (nth W i) j < 3) : ∀ {k i : Nat}, i < k → k ≤ W.length → (orW W j k).testBit (nth (nth W i) j).toNat = true
  | k + 1, i, h, hk => by
    rw [orW, Nat.testBit_or]
    by_cases e : i = k
    · subst e
      rw [Nat.testBit_two_pow_self]
      simp
    · rw [orW_bit hm (k := k) (by omega) (by omega)]
      rfl
end Go.Proofs.Ytmkholodkejomaa.Ab.T08
