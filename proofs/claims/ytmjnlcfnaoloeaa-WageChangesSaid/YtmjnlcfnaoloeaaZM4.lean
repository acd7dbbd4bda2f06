/- The different amounts of a line. -/
import Derived.Test.YtmjnlcfnaoloeaaZK4
import Derived.Test.YtmjnlcfnaoloeaaZM3
namespace Go.Proofs.Ytmjnlcfnaoloeaa.Ab.T12
open Go Go.RowKit
set_option linter.unusedVariables false
set_option linter.unusedSimpArgs false
set_option maxRecDepth 100000
def zeroL : List Value := (List.range 2501).map fun _ => Value.bool false
def seenA (S : Nat → Bool) : List AV := (List.range 2501).map fun j => .v (.bool (S j))
theorem zer_seen : zer Try.prog 146 = some zeroL := by kernel_rfl
theorem zeroL_all : (zeroL.all fun x => x.oneCell') = true := by
  unfold zeroL
  rw [List.all_eq_true]
  intro x hx
  obtain ⟨j, _, rfl⟩ := List.mem_map.1 hx
  rfl
theorem zeroL_map : zeroL.map AV.v = seenA fun _ => false := by
  unfold zeroL seenA
  rw [List.map_map]
  rfl
theorem seenA_len (S : Nat → Bool) : (seenA S).length = 2501 := by simp [seenA]
theorem seenA_at (S : Nat → Bool) {n : Nat} (h : n < 2501) : (seenA S)[n]? = some (.v (.bool (S n))) := by
  unfold seenA
  rw [List.getElem?_map, List.getElem?_range h]
  rfl
theorem seenA_get (S : Nat → Bool) {n : Nat} (h : n < 2501) : (List.take 1 (List.drop n (seenA S))).headD .un = .v (.bool (S n)) := by
  have h1 := seenA_at S h
  have h2 : n < (seenA S).length := by rw [seenA_len]; exact h
  rw [List.getElem?_eq_getElem h2] at h1
  rw [List.drop_eq_getElem_cons h2, Option.some.inj h1]
  rfl
def addS (S : Nat → Bool) (n : Nat) : Nat → Bool := fun j => if j = n then true else S j
theorem put_set : ∀ (l : List AV) (n : Nat) (x : AV), n < l.length → put l n [x] = l.set n x
  | [], n, x, h => by simp at h
  | a :: l, 0, x, _ => by
    cases l with
    | nil => rfl
    | cons b l => simp [put]
  | a :: l, n + 1, x, h => by
    have := put_set l n x (by simpa using h)
    simp only [put, List.set_cons_succ]
    rw [this]
theorem seenA_put (S : Nat → Bool) {n : Nat} (h : n < 2501) : put (seenA S) n [.v (.bool true)] = seenA (addS S n) := by
  rw [put_set _ _ _ (by rw [seenA_len]; exact h)]
  apply List.ext_getElem?
  intro i
  by_cases hi : i < 2501
  · rw [seenA_at _ hi]
    by_cases e : i = n
    · subst e
      rw [List.getElem?_set_self (by rw [seenA_len]; exact h)]
      simp [addS]
    · rw [List.getElem?_set_ne (fun hh => e hh.symm), seenA_at _ hi]
      simp [addS, e]
  · rw [List.getElem?_eq_none (by rw [List.length_set, seenA_len]; omega), List.getElem?_eq_none (by rw [seenA_len]; omega)]
theorem put_all : ∀ (l m : List AV), m.length = l.length → put l 0 m = m
  | [], m, h => by
    obtain rfl := List.length_eq_zero_iff.1 (by simpa using h)
    rfl
  | a :: l, [], h => by simp at h
  | a :: l, b :: m, h => by
    have := put_all l m (by simpa using h)
    simp only [put]
    rw [this]
theorem seenA_all (S T : Nat → Bool) : put (seenA S) 0 (seenA T) = seenA T := put_all _ _ (by rw [seenA_len, seenA_len])
/-- The different amounts of the first lines. -/
def amtU (L : List Ln) : Nat → List Int
  | 0 => []
  | i + 1 => if (nth L i).amount ∈ amtU L i then amtU L i else amtU L i ++ [(nth L i).amount]
def amtS (L : List Ln) (i : Nat) : Nat → Bool := fun j => decide ((j : Int) ∈ amtU L i)
theorem amtU_len (L : List Ln) : ∀ i, (amtU L i).length ≤ i
  | 0 => by simp [amtU]
  | i + 1 => by
    have := amtU_len L i
    unfold amtU
    split
    · omega
    · simp; omega
theorem amtU_mem {L : List Ln} {z : Int} : ∀ {i : Nat}, z ∈ amtU L i ↔ ∃ j, j < i ∧ z = (nth L j).amount
  | 0 => by simp [amtU]
  | i + 1 => by
    have ih := amtU_mem (L := L) (z := z) (i := i)
    have base : z ∈ amtU L (i + 1) ↔ z ∈ amtU L i ∨ z = (nth L i).amount := by
      simp only [amtU]
      by_cases c : (nth L i).amount ∈ amtU L i
      · rw [if_pos c]
        constructor
        · exact .inl
        · rintro (h | h)
          · exact h
          · rw [h]; exact c
      · rw [if_neg c, List.mem_append, List.mem_singleton]
    rw [base, ih]
    constructor
    · rintro (⟨j, h1, h2⟩ | h)
      · exact ⟨j, by omega, h2⟩
      · exact ⟨i, by omega, h⟩
    · rintro ⟨j, h1, h2⟩
      by_cases c : j = i
      · subst c; exact .inr h2
      · exact .inl ⟨j, by omega, h2⟩
theorem amtS_add {L : List Ln} {i a : Nat} (ha : (nth L i).amount = (a : Int)) (h : amtS L i a = false) : amtS L (i + 1) = addS (amtS L i) a ∧ amtU L (i + 1) = amtU L i ++ [(a : Int)] := by
  have hn : ¬ (nth L i).amount ∈ amtU L i := by rw [ha]; simpa [amtS] using h
  have e : amtU L (i + 1) = amtU L i ++ [(a : Int)] := by simp only [amtU]; rw [if_neg hn, ha]
  refine ⟨?_, e⟩
  funext j
  unfold amtS addS
  rw [e]
  by_cases c : j = a
  · subst c; simp
  · rw [if_neg c]
    have : ¬ (j : Int) = (a : Int) := by omega
    simp [this]
theorem amtS_keep {L : List Ln} {i a : Nat} (ha : (nth L i).amount = (a : Int)) (h : amtS L i a = true) : amtU L (i + 1) = amtU L i ∧ amtS L (i + 1) = amtS L i := by
  have hn : (nth L i).amount ∈ amtU L i := by rw [ha]; simpa [amtS] using h
  have e : amtU L (i + 1) = amtU L i := by simp only [amtU]; rw [if_pos hn]
  exact ⟨e, by unfold amtS; rw [e]⟩
def amtN (l : Ln) : List Int := amtU (allL l) (allL l).length
theorem amtN_mem {l : Ln} {z : Int} : z ∈ amtN l ↔ amtF l z := by
  unfold amtN
  rw [amtU_mem]
  constructor
  · rintro ⟨j, h1, h2⟩; exact ⟨_, nth_mem h1, h2⟩
  · rintro ⟨x, hx, h⟩
    obtain ⟨j, hj, rfl⟩ := mem_nth hx
    exact ⟨j, hj, h⟩
theorem eqV_self (ρ : Nat → Option (Option Nat)) (f : Nat → Value) : ∀ l : List Nat, eqrL (eqr1 ρ) (l.map fun j => AV.v (f j)) (l.map fun j => AV.v (f j))
  | [] => trivial
  | a :: l => ⟨rfl, eqV_self ρ f l⟩
theorem seenA_self (ρ : Nat → Option (Option Nat)) (S : Nat → Bool) : eqrL (eqr1 ρ) (seenA S) (seenA S) := eqV_self ρ (fun j => .bool (S j)) _
theorem allL_bd4 {l x : Ln} (h : x ∈ allL l) : 0 ≤ x.amount ∧ x.amount ≤ 2500 := amtF_bd l _ ⟨x, h, rfl⟩
set_option maxHeartbeats 4000000 in
theorem amts0_spec (l : Ln) : SpecF Try.prog 83 [.agg [.v (.int .i64 l.many), .v (.int .i64 l.each), .v (.int .i64 l.amount)]] (.ob 0 (amtN l).length) [.row 3 1 ((amtN l).map iR) false] := by
  have al := allL_len l
  refine spec_go (N := 40) (rs := [.tmp 2]) (eq := eqs) rfl rfl fun_83 rfl (by kernel_rfl) (by kernel_rfl) (by simp) (by simp) (by simp) (by simp) fun R hR => ?_
  simp (maxSteps := 2000000) only [vcA, ↓vcP, ↓reduceIte, reduceCtorEq, Nat.reduceAdd, Nat.reduceMul, Nat.reduceSub, Nat.reduceLT, Nat.reduceLeDiff, Nat.reduceEqDiff, Nat.reduceBEq, Nat.reduceBNe, Nat.reduceGT, Nat.reduceDiv, Nat.reduceMod, Int.reduceAdd, Int.reduceSub, Int.reduceNeg, Int.reduceLT, Int.reduceLE, Int.reduceEq, Int.reduceToNat, fA]
  refine onF_data (line_spec l) ?_ ?_
  · simp (maxSteps := 2000000) only [okA, ↓okP, Nat.reduceAdd, Nat.reduceMul, Nat.reduceSub, Nat.reduceLT, Nat.reduceLeDiff, Nat.reduceEqDiff, Nat.reduceBEq, ↓reduceIte, reduceCtorEq]
  simp (maxSteps := 2000000) only [vcA, ↓vcP, ↓reduceIte, reduceCtorEq, Nat.reduceAdd, Nat.reduceMul, Nat.reduceSub, Nat.reduceLT, Nat.reduceLeDiff, Nat.reduceEqDiff, Nat.reduceBEq, Nat.reduceBNe, Nat.reduceGT, Nat.reduceDiv, Nat.reduceMod, Int.reduceAdd, Int.reduceSub, Int.reduceNeg, Int.reduceLT, Int.reduceLE, Int.reduceEq, Int.reduceToNat, fA, zer_seen, zeroL_all, zeroL_map, seenA_all, seenA_len]
  refine goC_loop (α := {i : Nat // i ≤ (allL l).length}) (fun x => ⟨[(3, .ob 96 (amtU (allL l) x.1).length), (4, .sl 3 ((allL l).map lnR)), (5, .ptr 72 0), (6, .v (.int .i64 x.1))], [(72, .box 146 (seenA (amtS (allL l) x.1))), (96, .row 3 1 ((amtU (allL l) x.1).map iR) false)]⟩) (fun x => (allL l).length - x.1) ⟨0, by omega⟩ [some 24] ?_ ?_
  · have e0 : amtS (allL l) 0 = fun _ => false := by funext j; simp [amtS, amtU]
    simp (maxSteps := 2000000) only [enA, ↓enP, Nat.reduceAdd, Nat.reduceMul, Nat.reduceSub, Nat.reduceLT, Nat.reduceLeDiff, Nat.reduceEqDiff, Nat.reduceBEq, ↓reduceIte, reduceCtorEq, fA, amtU, e0]
    exact ⟨rfl, seenA_self _ _⟩
  intro x B hB
  obtain ⟨i, hi⟩ := x
  simp only at hB ⊢
  have ul := amtU_len (allL l) i
  by_cases c : i < (allL l).length
  · have p1 : ((i : Int) < ((allL l).length : Int)) = True := eq_true (by omega)
    have p1' : (i < (allL l).length) = True := eq_true c
    have ei : IntKind.i64.wrap ((i : Int) + 1) = ((i + 1 : Nat) : Int) := wrap_id (by omega) (by omega)
    have hx := allL_bd4 (nth_mem c)
    obtain ⟨a, ha⟩ : ∃ a : Nat, (nth (allL l) i).amount = (a : Int) := ⟨(nth (allL l) i).amount.toNat, by omega⟩
    have a1 : a < 2501 := by omega
    have a2 : ((a : Int) < 2501) = True := eq_true (by omega)
    have a3 : (a < 2501) = True := eq_true a1
    have a4 : (a ≤ 2500) = True := eq_true (by omega)
    cases hs : amtS (allL l) i a with
    | true =>
      obtain ⟨k1, k2⟩ := amtS_keep ha hs
      have sg := seenA_get (amtS (allL l) i) a1
      rw [hs] at sg
      simp (maxSteps := 2000000) only [vcA, ↓vcP, ↓reduceIte, reduceCtorEq, Nat.reduceAdd, Nat.reduceMul, Nat.reduceSub, Nat.reduceLT, Nat.reduceLeDiff, Nat.reduceEqDiff, Nat.reduceBEq, Nat.reduceBNe, Nat.reduceGT, Nat.reduceDiv, Nat.reduceMod, Int.reduceAdd, Int.reduceSub, Int.reduceNeg, Int.reduceLT, Int.reduceLE, Int.reduceEq, Int.reduceToNat, fA, p1, p1', lnR, ha, a2, a3, a4, sg, seenA_len, Nat.mul_one]
      refine hB _ ⟨i + 1, by omega⟩ [some 96] (by simp only; omega) rfl ?_
      simp (maxSteps := 2000000) only [enA, ↓enP, Nat.reduceAdd, Nat.reduceMul, Nat.reduceSub, Nat.reduceLT, Nat.reduceLeDiff, Nat.reduceEqDiff, Nat.reduceBEq, ↓reduceIte, reduceCtorEq, fA, ei, k1, k2]
      try exact seenA_self _ _
    | false =>
      obtain ⟨k1, k2⟩ := amtS_add ha hs
      have sg := seenA_get (amtS (allL l) i) a1
      rw [hs] at sg
      have sp := seenA_put (amtS (allL l) i) a1
      rw [← k1] at sp
      simp (maxSteps := 2000000) only [vcA, ↓vcP, ↓reduceIte, reduceCtorEq, Nat.reduceAdd, Nat.reduceMul, Nat.reduceSub, Nat.reduceLT, Nat.reduceLeDiff, Nat.reduceEqDiff, Nat.reduceBEq, Nat.reduceBNe, Nat.reduceGT, Nat.reduceDiv, Nat.reduceMod, Int.reduceAdd, Int.reduceSub, Int.reduceNeg, Int.reduceLT, Int.reduceLE, Int.reduceEq, Int.reduceToNat, fA, p1, p1', lnR, ha, a2, a3, a4, sg, sp, seenA_len, Nat.mul_one]
      refine ⟨⟨by omega, by simp only [maxLen]; omega⟩, fun _ => ?_⟩
      refine hB _ ⟨i + 1, by omega⟩ [some 336] (by simp only; omega) rfl ?_
      simp (maxSteps := 2000000) only [enA, ↓enP, Nat.reduceAdd, Nat.reduceMul, Nat.reduceSub, Nat.reduceLT, Nat.reduceLeDiff, Nat.reduceEqDiff, Nat.reduceBEq, ↓reduceIte, reduceCtorEq, fA, ei, k2, List.map_append, List.length_append, iR]
      try exact seenA_self _ _
  obtain rfl : i = (allL l).length := by omega
  have p1 : (((allL l).length : Int) < ((allL l).length : Int)) = False := eq_false (by omega)
  have p1' : ((allL l).length < (allL l).length) = False := eq_false c
  have en : amtU (allL l) (allL l).length = amtN l := rfl
  simp (maxSteps := 2000000) only [vcA, ↓vcP, ↓reduceIte, reduceCtorEq, Nat.reduceAdd, Nat.reduceMul, Nat.reduceSub, Nat.reduceLT, Nat.reduceLeDiff, Nat.reduceEqDiff, Nat.reduceBEq, Nat.reduceBNe, Nat.reduceGT, Nat.reduceDiv, Nat.reduceMod, Int.reduceAdd, Int.reduceSub, Int.reduceNeg, Int.reduceLT, Int.reduceLE, Int.reduceEq, Int.reduceToNat, fA, p1, p1']
  refine hR _ (fin_of1 [some 96] ?_)
  simp (maxSteps := 2000000) only [enA, ↓enP, Nat.reduceAdd, Nat.reduceMul, Nat.reduceSub, Nat.reduceLT, Nat.reduceLeDiff, Nat.reduceEqDiff, Nat.reduceBEq, ↓reduceIte, reduceCtorEq, fA, en]
theorem amts_spec (l : Ln) : SpecF Try.prog 83 [.agg [.v (.int .i64 l.many), .v (.int .i64 l.each), .v (.int .i64 l.amount)]] (.sl 1 ((amtN l).map iR)) [] := (amts0_spec l).frz
end Go.Proofs.Ytmjnlcfnaoloeaa.Ab.T12
