/- Can a bill be right: the document's way. -/
import Derived.Test.YtmjnlcfnaoloeaaZM4
namespace Go.Proofs.Ytmjnlcfnaoloeaa.Ab.T12
open Go Go.RowKit
set_option linter.unusedVariables false
set_option linter.unusedSimpArgs false
set_option maxRecDepth 100000
def sufS : List Ln → Int → Prop
  | [], z => z = 0
  | l :: ls, z => ∃ a, amtF l a ∧ ∃ c, sufS ls c ∧ z = a + c
theorem sufS_nn : ∀ {ls : List Ln} {z : Int}, sufS ls z → 0 ≤ z
  | [], z, h => by have : z = 0 := h; omega
  | l :: ls, z, ⟨a, ha, c, hc, h⟩ => by
    have := (amtF_bd l a ha).1
    have := sufS_nn hc
    omega
def canP (ls : List Ln) (t : Int) : Prop := (t = -1 ∧ ∃ z, sufS ls z) ∨ sufS ls t
noncomputable def canB (ls : List Ln) (t : Int) : Bool := open Classical in decide (canP ls t)
theorem canB_iff {ls : List Ln} {t : Int} : canB ls t = true ↔ canP ls t := by simp [canB]
theorem canB_no {ls : List Ln} {t : Int} : canB ls t = false ↔ ¬ canP ls t := by simp [canB]
def hitQ (ls : List Ln) (t a : Int) : Prop := (t = -1 ∧ canP ls (-1)) ∨ (a ≤ t ∧ canP ls (t - a))
theorem canP_cons {l : Ln} {ls : List Ln} {t : Int} : canP (l :: ls) t ↔ ∃ a ∈ amtN l, hitQ ls t a := by
  constructor
  · rintro (⟨ht, z, a, ha, c, hc, hz⟩ | ⟨a, ha, c, hc, hz⟩)
    · exact ⟨a, amtN_mem.2 ha, .inl ⟨ht, .inl ⟨rfl, c, hc⟩⟩⟩
    · have := sufS_nn hc
      exact ⟨a, amtN_mem.2 ha, .inr ⟨by omega, .inr (by rw [show t - a = c by omega]; exact hc)⟩⟩
  · rintro ⟨a, ha, ⟨ht, h⟩ | ⟨hta, h⟩⟩
    · have ha := amtN_mem.1 ha
      rcases h with ⟨_, c, hc⟩ | hc
      · exact .inl ⟨ht, _, a, ha, c, hc, rfl⟩
      · exact .inl ⟨ht, _, a, ha, _, hc, rfl⟩
    · have ha := amtN_mem.1 ha
      rcases h with ⟨h1, _⟩ | hc
      · omega
      · exact .inr ⟨a, ha, _, hc, by omega⟩
theorem sumA_cons (x : Ln) (xs : List Ln) : ∀ i, sumA (x :: xs) (i + 1) = x.amount + sumA xs i
  | 0 => by simp [sumA, nth_cons_zero]
  | i + 1 => by
    have ih := sumA_cons x xs i
    have e1 : sumA (x :: xs) (i + 1 + 1) = sumA (x :: xs) (i + 1) + (nth (x :: xs) (i + 1)).amount := rfl
    have e2 : sumA xs (i + 1) = sumA xs i + (nth xs i).amount := rfl
    rw [e1, ih, e2, nth_cons_succ]
    omega
theorem sufS_ch : ∀ {L : List Ln} {z : Int}, sufS L z ↔ ∃ xs, Ch L xs ∧ sumA xs xs.length = z
  | [], z => by
    constructor
    · intro h
      exact ⟨[], ⟨rfl, fun i hi => by simp at hi⟩, (show z = 0 from h).symm⟩
    · rintro ⟨xs, ⟨h1, _⟩, h2⟩
      obtain rfl : xs = [] := List.length_eq_zero_iff.1 (by simpa using h1)
      exact h2.symm
  | l :: L, z => by
    constructor
    · rintro ⟨a, ⟨x, hx, rfl⟩, c, hc, rfl⟩
      obtain ⟨xs, ⟨h1, h2⟩, h3⟩ := sufS_ch.1 hc
      refine ⟨x :: xs, ⟨by simp [h1], fun i hi => ?_⟩, ?_⟩
      · cases i with
        | zero => exact hx
        | succ i => exact h2 i (by simpa using hi)
      · rw [List.length_cons, sumA_cons, h3]
    · rintro ⟨xs, ⟨h1, h2⟩, h3⟩
      cases xs with
      | nil => simp at h1
      | cons x xs =>
        rw [List.length_cons, sumA_cons] at h3
        exact ⟨_, ⟨x, h2 0 (by simp), rfl⟩, _, sufS_ch.2 ⟨xs, ⟨by simpa using h1, fun i hi => h2 (i + 1) (by simpa using hi)⟩, rfl⟩, h3.symm⟩
theorem suf_oth {b : Bl} {z : Int} : sufS b.lines z ↔ othL b (-1) z := by
  rw [sufS_ch]
  constructor
  · rintro ⟨xs, h, rfl⟩; exact of_ch h
  · intro h; exact ch_of h
theorem canB_pos (b : Bl) : canB b.lines b.total = isPos b := by
  rw [Bool.eq_iff_iff, canB_iff, isPos_iff]
  unfold canP posP
  simp only [suf_oth]
set_option maxHeartbeats 8000000 in
theorem rcan_spec (b : Bl) (hl : b.lines.length ≤ 5) : ∀ (d o : Nat), o + d = b.lines.length → ∀ t : Int, -1 ≤ t → t ≤ 12500 → SpecF Try.prog 80 [.agg [.sl 3 (b.lines.map lnR), .v (.int .i64 b.total)], .v (.int .i64 o), .v (.int .i64 t)] (.v (.bool (canB (b.lines.drop o) t))) []
  | 0, o, hd, t, ht, ht2 => by
    have e : b.lines.drop o = [] := by rw [List.drop_eq_nil_iff]; omega
    have q : ((o : Int) == (b.lines.length : Int)) = true := by rw [beq_iff_eq]; omega
    rw [e]
    refine spec_go (N := 60) (rs := [.tmp 6]) (eq := eqs) rfl rfl fun_80 rfl (by kernel_rfl) (by kernel_rfl) (by simp) (by simp) (by simp) (by simp) fun R hR => ?_
    by_cases t0 : t = 0
    · have q1 : (t == 0) = true := by simpa using t0
      have ev : canB [] t = true := canB_iff.2 (.inr t0)
      simp (maxSteps := 2000000) only [vcA, ↓vcP, ↓reduceIte, reduceCtorEq, Nat.reduceAdd, Nat.reduceMul, Nat.reduceSub, Nat.reduceLT, Nat.reduceLeDiff, Nat.reduceEqDiff, Nat.reduceBEq, Nat.reduceBNe, Nat.reduceGT, Nat.reduceDiv, Nat.reduceMod, Int.reduceAdd, Int.reduceSub, Int.reduceNeg, Int.reduceLT, Int.reduceLE, Int.reduceEq, Int.reduceToNat, fA, q, q1]
      refine hR _ (fin_of0 ?_)
      simp (maxSteps := 2000000) only [enA, ↓enP, Nat.reduceAdd, Nat.reduceMul, Nat.reduceSub, Nat.reduceLT, Nat.reduceLeDiff, Nat.reduceEqDiff, Nat.reduceBEq, ↓reduceIte, reduceCtorEq, fA, ev]
    · have q1 : (t == 0) = false := by simpa using t0
      by_cases t1 : t = -1
      · have q2 : (t == -1) = true := by simpa using t1
        have ev : canB [] t = true := canB_iff.2 (.inl ⟨t1, 0, rfl⟩)
        simp (maxSteps := 2000000) only [vcA, ↓vcP, ↓reduceIte, reduceCtorEq, Nat.reduceAdd, Nat.reduceMul, Nat.reduceSub, Nat.reduceLT, Nat.reduceLeDiff, Nat.reduceEqDiff, Nat.reduceBEq, Nat.reduceBNe, Nat.reduceGT, Nat.reduceDiv, Nat.reduceMod, Int.reduceAdd, Int.reduceSub, Int.reduceNeg, Int.reduceLT, Int.reduceLE, Int.reduceEq, Int.reduceToNat, fA, q, q1, q2]
        refine hR _ (fin_of0 ?_)
        simp (maxSteps := 2000000) only [enA, ↓enP, Nat.reduceAdd, Nat.reduceMul, Nat.reduceSub, Nat.reduceLT, Nat.reduceLeDiff, Nat.reduceEqDiff, Nat.reduceBEq, ↓reduceIte, reduceCtorEq, fA, ev]
      · have q2 : (t == -1) = false := by simpa using t1
        have ev : canB [] t = false := canB_no.2 (by
          rintro (⟨h, _⟩ | h)
          · exact t1 h
          · exact t0 h)
        simp (maxSteps := 2000000) only [vcA, ↓vcP, ↓reduceIte, reduceCtorEq, Nat.reduceAdd, Nat.reduceMul, Nat.reduceSub, Nat.reduceLT, Nat.reduceLeDiff, Nat.reduceEqDiff, Nat.reduceBEq, Nat.reduceBNe, Nat.reduceGT, Nat.reduceDiv, Nat.reduceMod, Int.reduceAdd, Int.reduceSub, Int.reduceNeg, Int.reduceLT, Int.reduceLE, Int.reduceEq, Int.reduceToNat, fA, q, q1, q2]
        refine hR _ (fin_of0 ?_)
        simp (maxSteps := 2000000) only [enA, ↓enP, Nat.reduceAdd, Nat.reduceMul, Nat.reduceSub, Nat.reduceLT, Nat.reduceLeDiff, Nat.reduceEqDiff, Nat.reduceBEq, ↓reduceIte, reduceCtorEq, fA, ev]
  | d + 1, o, hd, t, ht, ht2 => by
    have hc : o < b.lines.length := by omega
    have e : b.lines.drop o = nth b.lines o :: b.lines.drop (o + 1) := drop_nth hc
    have q : ((o : Int) == (b.lines.length : Int)) = false := by rw [beq_eq_false_iff_ne]; omega
    have p1 : ((o : Int) < (b.lines.length : Int)) = True := eq_true (by omega)
    have p1' : (o < b.lines.length) = True := eq_true hc
    have eo : IntKind.i64.wrap ((o : Int) + 1) = ((o + 1 : Nat) : Int) := wrap_id (by omega) (by omega)
    have al : (amtN (nth b.lines o)).length ≤ 2601 := by
      have h1 := amtU_len (allL (nth b.lines o)) (allL (nth b.lines o)).length
      have h2 := allL_len (nth b.lines o)
      unfold amtN
      omega
    have ih := rcan_spec b hl d (o + 1) (by omega)
    refine spec_go (N := 60) (rs := [.tmp 6]) (eq := eqs) rfl rfl fun_80 rfl (by kernel_rfl) (by kernel_rfl) (by simp) (by simp) (by simp) (by simp) fun R hR => ?_
    simp (maxSteps := 2000000) only [vcA, ↓vcP, ↓reduceIte, reduceCtorEq, Nat.reduceAdd, Nat.reduceMul, Nat.reduceSub, Nat.reduceLT, Nat.reduceLeDiff, Nat.reduceEqDiff, Nat.reduceBEq, Nat.reduceBNe, Nat.reduceGT, Nat.reduceDiv, Nat.reduceMod, Int.reduceAdd, Int.reduceSub, Int.reduceNeg, Int.reduceLT, Int.reduceLE, Int.reduceEq, Int.reduceToNat, fA, q, p1, p1', lnR]
    refine onF_data (amts_spec (nth b.lines o)) ?_ ?_
    · simp (maxSteps := 2000000) only [okA, ↓okP, Nat.reduceAdd, Nat.reduceMul, Nat.reduceSub, Nat.reduceLT, Nat.reduceLeDiff, Nat.reduceEqDiff, Nat.reduceBEq, ↓reduceIte, reduceCtorEq]
    simp (maxSteps := 2000000) only [vcA, ↓vcP, ↓reduceIte, reduceCtorEq, Nat.reduceAdd, Nat.reduceMul, Nat.reduceSub, Nat.reduceLT, Nat.reduceLeDiff, Nat.reduceEqDiff, Nat.reduceBEq, Nat.reduceBNe, Nat.reduceGT, Nat.reduceDiv, Nat.reduceMod, Int.reduceAdd, Int.reduceSub, Int.reduceNeg, Int.reduceLT, Int.reduceLE, Int.reduceEq, Int.reduceToNat, fA]
    refine goC_loop (α := {i : Nat // i ≤ (amtN (nth b.lines o)).length ∧ ∀ j, j < i → ¬ hitQ (b.lines.drop (o + 1)) t (nth (amtN (nth b.lines o)) j)}) (fun x => ⟨[(1, .v (.int .i64 o)), (2, .v (.int .i64 t)), (3, .ptr 8 0), (7, .sl 1 ((amtN (nth b.lines o)).map iR)), (8, .v (.int .i64 x.1))], [(8, .box 51 [.sl 3 (b.lines.map lnR), .v (.int .i64 b.total)])]⟩) (fun x => (amtN (nth b.lines o)).length - x.1) ⟨0, by omega, by omega⟩ [] ?_ ?_
    · simp (maxSteps := 2000000) only [enA, ↓enP, Nat.reduceAdd, Nat.reduceMul, Nat.reduceSub, Nat.reduceLT, Nat.reduceLeDiff, Nat.reduceEqDiff, Nat.reduceBEq, ↓reduceIte, reduceCtorEq, fA]
      try rfl
    intro x B hB
    obtain ⟨i, hi, hj⟩ := x
    simp only at hB ⊢
    by_cases c : i < (amtN (nth b.lines o)).length
    · have r1 : ((i : Int) < ((amtN (nth b.lines o)).length : Int)) = True := eq_true (by omega)
      have r1' : (i < (amtN (nth b.lines o)).length) = True := eq_true c
      have ei : IntKind.i64.wrap ((i : Int) + 1) = ((i + 1 : Nat) : Int) := wrap_id (by omega) (by omega)
      have hm := nth_mem c
      have ab := amtF_bd _ _ (amtN_mem.1 hm)
      have yes : hitQ (b.lines.drop (o + 1)) t (nth (amtN (nth b.lines o)) i) → canB (b.lines.drop o) t = true := fun h => canB_iff.2 (by rw [e]; exact canP_cons.2 ⟨_, hm, h⟩)
      have next : ¬ hitQ (b.lines.drop (o + 1)) t (nth (amtN (nth b.lines o)) i) → ∀ j, j < i + 1 → ¬ hitQ (b.lines.drop (o + 1)) t (nth (amtN (nth b.lines o)) j) := fun h j hj' => by
        by_cases cj : j = i
        · rw [cj]; exact h
        · exact hj j (by omega)
      by_cases t1 : t = -1
      · subst t1
        have q2 : ((-1 : Int) == -1) = true := rfl
        have q3 : ((-1 : Int) ≥ nth (amtN (nth b.lines o)) i) = False := eq_false (by omega)
        simp (maxSteps := 2000000) only [vcA, ↓vcP, ↓reduceIte, reduceCtorEq, Nat.reduceAdd, Nat.reduceMul, Nat.reduceSub, Nat.reduceLT, Nat.reduceLeDiff, Nat.reduceEqDiff, Nat.reduceBEq, Nat.reduceBNe, Nat.reduceGT, Nat.reduceDiv, Nat.reduceMod, Int.reduceAdd, Int.reduceSub, Int.reduceNeg, Int.reduceLT, Int.reduceLE, Int.reduceEq, Int.reduceToNat, fA, r1, r1', q2, eo]
        refine onF_data (ih (-1) (by omega) (by omega)) ?_ ?_
        · simp (maxSteps := 2000000) only [okA, ↓okP, Nat.reduceAdd, Nat.reduceMul, Nat.reduceSub, Nat.reduceLT, Nat.reduceLeDiff, Nat.reduceEqDiff, Nat.reduceBEq, ↓reduceIte, reduceCtorEq]
        cases hb : canB (b.lines.drop (o + 1)) (-1) with
        | true =>
          have ev := yes (.inl ⟨rfl, canB_iff.1 hb⟩)
          simp (maxSteps := 2000000) only [vcA, ↓vcP, ↓reduceIte, reduceCtorEq, Nat.reduceAdd, Nat.reduceMul, Nat.reduceSub, Nat.reduceLT, Nat.reduceLeDiff, Nat.reduceEqDiff, Nat.reduceBEq, Nat.reduceBNe, Nat.reduceGT, Nat.reduceDiv, Nat.reduceMod, Int.reduceAdd, Int.reduceSub, Int.reduceNeg, Int.reduceLT, Int.reduceLE, Int.reduceEq, Int.reduceToNat, fA]
          try refine ⟨by kernel_rfl, ?_⟩
          refine hR _ (fin_of0 ?_)
          simp (maxSteps := 2000000) only [enA, ↓enP, Nat.reduceAdd, Nat.reduceMul, Nat.reduceSub, Nat.reduceLT, Nat.reduceLeDiff, Nat.reduceEqDiff, Nat.reduceBEq, ↓reduceIte, reduceCtorEq, fA, ev]
        | false =>
          have nx := next (by
            rintro (⟨_, h⟩ | ⟨h, _⟩)
            · exact canB_no.1 hb h
            · omega)
          simp (maxSteps := 2000000) only [vcA, ↓vcP, ↓reduceIte, reduceCtorEq, Nat.reduceAdd, Nat.reduceMul, Nat.reduceSub, Nat.reduceLT, Nat.reduceLeDiff, Nat.reduceEqDiff, Nat.reduceBEq, Nat.reduceBNe, Nat.reduceGT, Nat.reduceDiv, Nat.reduceMod, Int.reduceAdd, Int.reduceSub, Int.reduceNeg, Int.reduceLT, Int.reduceLE, Int.reduceEq, Int.reduceToNat, fA, r1, r1', q3, iR]
          try refine ⟨by kernel_rfl, ?_⟩
          refine hB _ ⟨i + 1, by omega, nx⟩ [] (by simp only; omega) rfl ?_
          simp (maxSteps := 2000000) only [enA, ↓enP, Nat.reduceAdd, Nat.reduceMul, Nat.reduceSub, Nat.reduceLT, Nat.reduceLeDiff, Nat.reduceEqDiff, Nat.reduceBEq, ↓reduceIte, reduceCtorEq, fA, ei]
      · have q2 : (t == -1) = false := by simpa using t1
        by_cases t2 : t ≥ nth (amtN (nth b.lines o)) i
        · have q3 : (t ≥ nth (amtN (nth b.lines o)) i) = True := eq_true t2
          have w1 : IntKind.i64.wrap (t - nth (amtN (nth b.lines o)) i) = t - nth (amtN (nth b.lines o)) i := wrap_id (by omega) (by omega)
          simp (maxSteps := 2000000) only [vcA, ↓vcP, ↓reduceIte, reduceCtorEq, Nat.reduceAdd, Nat.reduceMul, Nat.reduceSub, Nat.reduceLT, Nat.reduceLeDiff, Nat.reduceEqDiff, Nat.reduceBEq, Nat.reduceBNe, Nat.reduceGT, Nat.reduceDiv, Nat.reduceMod, Int.reduceAdd, Int.reduceSub, Int.reduceNeg, Int.reduceLT, Int.reduceLE, Int.reduceEq, Int.reduceToNat, fA, r1, r1', q2, q3, eo, iR, w1]
          refine onF_data (ih (t - nth (amtN (nth b.lines o)) i) (by omega) (by omega)) ?_ ?_
          · simp (maxSteps := 2000000) only [okA, ↓okP, Nat.reduceAdd, Nat.reduceMul, Nat.reduceSub, Nat.reduceLT, Nat.reduceLeDiff, Nat.reduceEqDiff, Nat.reduceBEq, ↓reduceIte, reduceCtorEq]
          cases hb : canB (b.lines.drop (o + 1)) (t - nth (amtN (nth b.lines o)) i) with
          | true =>
            have ev := yes (.inr ⟨t2, canB_iff.1 hb⟩)
            simp (maxSteps := 2000000) only [vcA, ↓vcP, ↓reduceIte, reduceCtorEq, Nat.reduceAdd, Nat.reduceMul, Nat.reduceSub, Nat.reduceLT, Nat.reduceLeDiff, Nat.reduceEqDiff, Nat.reduceBEq, Nat.reduceBNe, Nat.reduceGT, Nat.reduceDiv, Nat.reduceMod, Int.reduceAdd, Int.reduceSub, Int.reduceNeg, Int.reduceLT, Int.reduceLE, Int.reduceEq, Int.reduceToNat, fA]
            try refine ⟨by kernel_rfl, ?_⟩
            refine hR _ (fin_of0 ?_)
            simp (maxSteps := 2000000) only [enA, ↓enP, Nat.reduceAdd, Nat.reduceMul, Nat.reduceSub, Nat.reduceLT, Nat.reduceLeDiff, Nat.reduceEqDiff, Nat.reduceBEq, ↓reduceIte, reduceCtorEq, fA, ev]
          | false =>
            have nx := next (by
              rintro (⟨h, _⟩ | ⟨_, h⟩)
              · exact t1 h
              · exact canB_no.1 hb h)
            simp (maxSteps := 2000000) only [vcA, ↓vcP, ↓reduceIte, reduceCtorEq, Nat.reduceAdd, Nat.reduceMul, Nat.reduceSub, Nat.reduceLT, Nat.reduceLeDiff, Nat.reduceEqDiff, Nat.reduceBEq, Nat.reduceBNe, Nat.reduceGT, Nat.reduceDiv, Nat.reduceMod, Int.reduceAdd, Int.reduceSub, Int.reduceNeg, Int.reduceLT, Int.reduceLE, Int.reduceEq, Int.reduceToNat, fA]
            try refine ⟨by kernel_rfl, ?_⟩
            refine hB _ ⟨i + 1, by omega, nx⟩ [] (by simp only; omega) rfl ?_
            simp (maxSteps := 2000000) only [enA, ↓enP, Nat.reduceAdd, Nat.reduceMul, Nat.reduceSub, Nat.reduceLT, Nat.reduceLeDiff, Nat.reduceEqDiff, Nat.reduceBEq, ↓reduceIte, reduceCtorEq, fA, ei]
        · have q3 : (t ≥ nth (amtN (nth b.lines o)) i) = False := eq_false t2
          have nx := next (by
            rintro (⟨h, _⟩ | ⟨h, _⟩)
            · exact t1 h
            · exact t2 h)
          simp (maxSteps := 2000000) only [vcA, ↓vcP, ↓reduceIte, reduceCtorEq, Nat.reduceAdd, Nat.reduceMul, Nat.reduceSub, Nat.reduceLT, Nat.reduceLeDiff, Nat.reduceEqDiff, Nat.reduceBEq, Nat.reduceBNe, Nat.reduceGT, Nat.reduceDiv, Nat.reduceMod, Int.reduceAdd, Int.reduceSub, Int.reduceNeg, Int.reduceLT, Int.reduceLE, Int.reduceEq, Int.reduceToNat, fA, r1, r1', q2, q3, iR]
          try refine ⟨by kernel_rfl, ?_⟩
          refine hB _ ⟨i + 1, by omega, nx⟩ [] (by simp only; omega) rfl ?_
          simp (maxSteps := 2000000) only [enA, ↓enP, Nat.reduceAdd, Nat.reduceMul, Nat.reduceSub, Nat.reduceLT, Nat.reduceLeDiff, Nat.reduceEqDiff, Nat.reduceBEq, ↓reduceIte, reduceCtorEq, fA, ei]
    obtain rfl : i = (amtN (nth b.lines o)).length := by omega
    have r1 : (((amtN (nth b.lines o)).length : Int) < ((amtN (nth b.lines o)).length : Int)) = False := eq_false (by omega)
    have r1' : ((amtN (nth b.lines o)).length < (amtN (nth b.lines o)).length) = False := eq_false c
    have ev : canB (b.lines.drop o) t = false := canB_no.2 (by
      rw [e, canP_cons]
      rintro ⟨a, ha, h⟩
      obtain ⟨j, hj1, rfl⟩ := mem_nth ha
      exact hj j hj1 h)
    simp (maxSteps := 2000000) only [vcA, ↓vcP, ↓reduceIte, reduceCtorEq, Nat.reduceAdd, Nat.reduceMul, Nat.reduceSub, Nat.reduceLT, Nat.reduceLeDiff, Nat.reduceEqDiff, Nat.reduceBEq, Nat.reduceBNe, Nat.reduceGT, Nat.reduceDiv, Nat.reduceMod, Int.reduceAdd, Int.reduceSub, Int.reduceNeg, Int.reduceLT, Int.reduceLE, Int.reduceEq, Int.reduceToNat, fA, r1, r1']
    refine hR _ (fin_of0 ?_)
    simp (maxSteps := 2000000) only [enA, ↓enP, Nat.reduceAdd, Nat.reduceMul, Nat.reduceSub, Nat.reduceLT, Nat.reduceLeDiff, Nat.reduceEqDiff, Nat.reduceBEq, ↓reduceIte, reduceCtorEq, fA, ev]
end Go.Proofs.Ytmjnlcfnaoloeaa.Ab.T12
