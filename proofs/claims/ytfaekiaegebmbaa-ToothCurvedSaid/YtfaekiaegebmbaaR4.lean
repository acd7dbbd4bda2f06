/- The reference: at which heights an edge can be. -/
import Derived.Test.YtfaekiaegebmbaaR3
namespace Go.Proofs.Ytfaekiaegebmbaa.Ab.T01
open Go Go.RowKit
set_option linter.unusedSimpArgs false
set_option linter.unusedVariables false
set_option maxRecDepth 100000
theorem set_bR (L : List Bool) (i : Nat) (b : Bool) (h : i < L.length) : (L.map bR).set i (put ((L.map bR).getD i []) 0 [.v (.bool b)]) = (L.set i b).map bR := by
  rw [nth_map bR L i h, List.map_set]
  rfl
theorem rep_bR (n : Nat) (h : n = 301) : List.replicate n [DV.v (.bool false)] = (rowB fun _ => false).map bR := by
  subst h
  rw [List.eq_replicate_iff.2 ⟨rowB_length _, fun b hb => ?_⟩, List.map_replicate]
  · rfl
  · obtain ⟨k, _, rfl⟩ := List.mem_map.1 hb
    rfl
/-- What is known of a height so far. -/
def valB (l : List Sp) (bend : Int) (i : Nat) (h k : Int) : Bool := if i = 0 then true else partB (reachB l bend (i - 1)) (max 0 (h - bend)) k
theorem reach_spec (l : List Sp) (bend : Int) (hl : l.length < 1000) (hok : Okl l) (hb : 0 ≤ bend ∧ bend ≤ 300) : SpecF Try.prog 90 [.sl 2 (l.map spR), .v (.int .i64 bend)] (.sl 1 ((List.range l.length).map (reachR l bend))) [] := by
  refine SpecG.frz (r := .ob 0 l.length) (objs := [.row 151 1 ((List.range l.length).map (reachR l bend)) false]) ?_
  refine spec_go (N := 75) (rs := [.tmp 4]) (eq := eqs) rfl rfl fun_90 rfl (by kernel_rfl) (by kernel_rfl) (by simp) (by simp) (by simp) (by simp) fun R hR => ?_
  simp (maxSteps := 2000000) only [vcA, ↓vcP, ↓reduceIte, reduceCtorEq, Nat.reduceAdd, Nat.reduceMul, Nat.reduceSub, Nat.reduceLT, Nat.reduceLeDiff, Nat.reduceEqDiff, Nat.reduceBEq, Nat.reduceBNe, Nat.reduceGT, Nat.reduceDiv, Nat.reduceMod, Int.reduceAdd, Int.reduceSub, Int.reduceNeg, Int.reduceLT, Int.reduceLE, Int.reduceEq, Int.reduceToNat, fA]
  refine goC_loop (α := {i : Nat // i ≤ l.length}) (fun x => ⟨[(0, .sl 2 (l.map spR)), (1, .v (.int .i64 bend)), (5, .ob 40 x.1), (6, .v (.int .i64 x.1))], [(40, .row 151 1 ((List.range x.1).map (reachR l bend)) false)]⟩) (fun x => l.length - x.1) ⟨0, by omega⟩ [some 16] ?_ ?_
  · simp (maxSteps := 2000000) only [enA, ↓enP, Nat.reduceAdd, Nat.reduceMul, Nat.reduceSub, Nat.reduceLT, Nat.reduceLeDiff, Nat.reduceEqDiff, Nat.reduceBEq, ↓reduceIte, reduceCtorEq, fA]
    exact ⟨rfl, rfl⟩
  intro x B hB
  obtain ⟨i, hi⟩ := x
  by_cases hc : i < l.length
  · have qc : (i < l.length) = True := eq_true hc
    have e3 : IntKind.i64.wrap ((i : Int) + 1) = ((i + 1 : Nat) : Int) := wrap_id (by omega) (by omega)
    have ho := hok _ (nth_mem hc)
    generalize hs : nth l i = s at *
    simp (maxSteps := 2000000) only [vcA, ↓vcP, ↓reduceIte, reduceCtorEq, Nat.reduceAdd, Nat.reduceMul, Nat.reduceSub, Nat.reduceLT, Nat.reduceLeDiff, Nat.reduceEqDiff, Nat.reduceBEq, Nat.reduceBNe, Nat.reduceGT, Nat.reduceDiv, Nat.reduceMod, Int.reduceAdd, Int.reduceSub, Int.reduceNeg, Int.reduceLT, Int.reduceLE, Int.reduceEq, Int.reduceToNat, fA, qc, e3, spR, hs]
    refine ⟨⟨by omega, by simp only [maxLen]; omega⟩, fun _ => ?_⟩
    refine goC_loop (α := {h : Int // s.1 ≤ h ∧ h ≤ s.2 + 1}) (fun x => ⟨[(0, .sl 2 (l.map spR)), (1, .v (.int .i64 bend)), (5, .ob 40 i), (6, .v (.int .i64 i)), (7, .ob 104 301), (8, .v (.int .i64 x.1))], [(40, .row 151 1 ((List.range i).map (reachR l bend)) false), (104, .row 4 1 ((rowB fun y => decide (y < x.1) && reachB l bend i y).map bR) false)]⟩) (fun x => (s.2 + 1 - x.1).toNat) ⟨s.1, by omega, by omega⟩ [] ?_ ?_
    · simp (maxSteps := 2000000) only [enA, ↓enP, Nat.reduceAdd, Nat.reduceMul, Nat.reduceSub, Nat.reduceLT, Nat.reduceLeDiff, Nat.reduceEqDiff, Nat.reduceBEq, ↓reduceIte, reduceCtorEq, fA]
      have : (rowB fun y => decide (y < s.1) && reachB l bend i y) = rowB fun _ => false := rowB_congr fun y hy => by
        by_cases hys : (y : Int) < s.1
        · rw [reachB_out (.inl (by rw [hs]; exact hys))]; simp
        · rw [decide_eq_false hys]; rfl
      rw [this, ← rep_bR 301 rfl]
      rfl
    intro x B2 hB2
    obtain ⟨h, h1, h2⟩ := x
    obtain ⟨H, rfl⟩ : ∃ H : Nat, h = H := ⟨h.toNat, by omega⟩
    by_cases hh : (H : Int) ≤ s.2
    · have qh : ((H : Int) ≤ s.2) = True := eq_true hh
      have q301 : (H < 301) = True := eq_true (by omega)
      have e4 : IntKind.i64.wrap ((H : Int) + 1) = ((H + 1 : Nat) : Int) := wrap_id (by omega) (by omega)
      have e5 : IntKind.i64.wrap ((H : Int) - bend) = H - bend := wrap_id (by omega) (by omega)
      have hlr : ∀ f, (rowB f).length = 301 := rowB_length
      simp (maxSteps := 2000000) only [vcA, ↓vcP, ↓reduceIte, reduceCtorEq, Nat.reduceAdd, Nat.reduceMul, Nat.reduceSub, Nat.reduceLT, Nat.reduceLeDiff, Nat.reduceEqDiff, Nat.reduceBEq, Nat.reduceBNe, Nat.reduceGT, Nat.reduceDiv, Nat.reduceMod, Int.reduceAdd, Int.reduceSub, Int.reduceNeg, Int.reduceLT, Int.reduceLE, Int.reduceEq, Int.reduceToNat, fA, qc, qh, e4, e5, spR, hs, q301, rowB_length]
      refine ⟨by omega, fun _ => ?_⟩
      rw [set_bR _ _ _ (by rw [rowB_length]; omega), rowB_set (by omega)]
      have hk0 : 0 ≤ max 0 ((H : Int) - bend) ∧ max 0 ((H : Int) - bend) ≤ min 300 ((H : Int) + bend) + 1 := by omega
      refine goC_loop (α := {k : Int // max 0 ((H : Int) - bend) ≤ k ∧ k ≤ min 300 ((H : Int) + bend) + 1}) (fun x => ⟨[(0, .sl 2 (l.map spR)), (1, .v (.int .i64 bend)), (5, .ob 40 i), (6, .v (.int .i64 i)), (7, .ob 104 301), (8, .v (.int .i64 H)), (9, .v (.int .i64 x.1))], [(40, .row 151 1 ((List.range i).map (reachR l bend)) false), (104, .row 4 1 ((rowB fun y => if y = (H : Int) then valB l bend i H x.1 else decide (y < (H : Int)) && reachB l bend i y).map bR) false)]⟩) (fun x => (min 300 ((H : Int) + bend) + 1 - x.1).toNat) ⟨max 0 ((H : Int) - bend), by omega, by omega⟩ [] ?_ ?_
      · simp (maxSteps := 2000000) only [enA, ↓enP, Nat.reduceAdd, Nat.reduceMul, Nat.reduceSub, Nat.reduceLT, Nat.reduceLeDiff, Nat.reduceEqDiff, Nat.reduceBEq, ↓reduceIte, reduceCtorEq, fA]
        have hv : valB l bend i H (max 0 ((H : Int) - bend)) = ((i : Int) == 0) := by
          unfold valB
          by_cases h0 : i = 0
          · subst h0; rfl
          · rw [if_neg h0, partB_start _ _ (.inl (Int.le_refl _))]
            exact (beq_eq_false_iff_ne.2 (by omega)).symm
        rw [hv]
      intro x B3 hB3
      obtain ⟨k, k1, k2⟩ := x
      obtain ⟨K, rfl⟩ : ∃ K : Nat, k = K := ⟨k.toNat, by omega⟩
      have e6 : IntKind.i64.wrap ((K : Int) + 1) = ((K + 1 : Nat) : Int) := wrap_id (by omega) (by omega)
      have e7 : IntKind.i64.wrap ((H : Int) + bend) = H + bend := wrap_id (by omega) (by omega)
      have e8 : i ≠ 0 → IntKind.i64.wrap ((i : Int) - 1) = ((i - 1 : Nat) : Int) := fun h0 => by rw [wrap_id (by omega) (by omega)]; omega
      have hn : nth (rowB fun y => if y = (H : Int) then valB l bend i H K else decide (y < (H : Int)) && reachB l bend i y) H = valB l bend i H K := by rw [rowB_nth (by omega), if_pos rfl]
      -- the height is known
      have fin : valB l bend i H K = reachB l bend i H → (rowB fun y => if y = (H : Int) then valB l bend i H K else decide (y < (H : Int)) && reachB l bend i y) = rowB fun y => decide (y < ((H + 1 : Nat) : Int)) && reachB l bend i y := fun he => rowB_congr fun y hy => by
        by_cases e : (y : Int) = H
        · rw [if_pos e, he, e, decide_eq_true (by omega)]; rfl
        · rw [if_neg e]
          by_cases e2 : (y : Int) < H
          · rw [decide_eq_true e2, decide_eq_true (by omega)]
          · rw [decide_eq_false e2, decide_eq_false (by omega)]
      by_cases h0 : i = 0
      · have qi : ((i : Int) > 0) = False := eq_false (by omega)
        have he : valB l bend i H K = reachB l bend i H := by
          unfold valB
          rw [if_pos h0, h0, reachB]
          rw [h0] at hs
          rw [hs, decide_eq_true h1, decide_eq_true hh]
          rfl
        simp (maxSteps := 2000000) only [vcA, ↓vcP, ↓reduceIte, reduceCtorEq, Nat.reduceAdd, Nat.reduceMul, Nat.reduceSub, Nat.reduceLT, Nat.reduceLeDiff, Nat.reduceEqDiff, Nat.reduceBEq, Nat.reduceBNe, Nat.reduceGT, Nat.reduceDiv, Nat.reduceMod, Int.reduceAdd, Int.reduceSub, Int.reduceNeg, Int.reduceLT, Int.reduceLE, Int.reduceEq, Int.reduceToNat, fA, qi, e4]
        rw [fin he]
        refine hB2 _ ⟨((H + 1 : Nat) : Int), by omega, by omega⟩ [] (by simp only; omega) rfl ?_
        simp (maxSteps := 2000000) only [enA, ↓enP, Nat.reduceAdd, Nat.reduceMul, Nat.reduceSub, Nat.reduceLT, Nat.reduceLeDiff, Nat.reduceEqDiff, Nat.reduceBEq, ↓reduceIte, reduceCtorEq, fA]
      · have qi : ((i : Int) > 0) = True := eq_true (by omega)
        have e9 := e8 h0
        by_cases hk : (K : Int) ≤ min 300 ((H : Int) + bend)
        · have qk : ((K : Int) ≤ min 300 ((H : Int) + bend)) = True := eq_true hk
          have hset : ∀ b, (List.map bR (rowB fun y => if y = (H : Int) then valB l bend i H K else decide (y < (H : Int)) && reachB l bend i y)).set H (put ((List.map bR (rowB fun y => if y = (H : Int) then valB l bend i H K else decide (y < (H : Int)) && reachB l bend i y)).getD H []) 0 [.v (.bool b)]) = List.map bR (rowB fun y => if y = (H : Int) then b else decide (y < (H : Int)) && reachB l bend i y) := fun b => by
            rw [set_bR _ _ _ (by rw [rowB_length]; omega), rowB_set (by omega)]
            congr 1
            refine rowB_congr fun y hy => ?_
            by_cases e : (y : Int) = H
            · rw [if_pos e, if_pos e]
            · rw [if_neg e, if_neg e, if_neg e]
          have hstep : valB l bend i H ((K + 1 : Nat) : Int) = (valB l bend i H K || reachB l bend (i - 1) K) := by
            unfold valB
            rw [if_neg h0, if_neg h0]
            exact partB_step _ _ (by omega) k1
          have qK : (K < 301) = True := eq_true (by omega)
          have ql : (i - 1 < i) = True := eq_true (by omega)
          have hri : nth (List.range i) (i - 1) = i - 1 := by
            have := nth_range (n := i) (f := id) (k := i - 1) (by omega)
            simpa using this
          have hrn : nth (rowB (reachB l bend (i - 1))) K = reachB l bend (i - 1) K := rowB_nth (by omega)
          simp (maxSteps := 2000000) only [vcA, ↓vcP, ↓reduceIte, reduceCtorEq, Nat.reduceAdd, Nat.reduceMul, Nat.reduceSub, Nat.reduceLT, Nat.reduceLeDiff, Nat.reduceEqDiff, Nat.reduceBEq, Nat.reduceBNe, Nat.reduceGT, Nat.reduceDiv, Nat.reduceMod, Int.reduceAdd, Int.reduceSub, Int.reduceNeg, Int.reduceLT, Int.reduceLE, Int.reduceEq, Int.reduceToNat, fA, qi, qk, e6, e7, e9, rowB_length, q301, hn, hrn, reachR, rowR, bR, hri, qK, ql, List.length_range]
          refine ⟨by omega, fun _ => ⟨fun hv => ⟨by omega, fun _ => ⟨by omega, fun _ => ?_⟩⟩, fun hv => ⟨by omega, fun _ => ?_⟩⟩⟩
          · rw [hset]
            rw [hv, Bool.false_or] at hstep
            rw [← hstep]
            refine hB3 _ ⟨((K + 1 : Nat) : Int), by omega, by omega⟩ [] (by simp only; omega) rfl ?_
            simp (maxSteps := 2000000) only [enA, ↓enP, Nat.reduceAdd, Nat.reduceMul, Nat.reduceSub, Nat.reduceLT, Nat.reduceLeDiff, Nat.reduceEqDiff, Nat.reduceBEq, ↓reduceIte, reduceCtorEq, fA]
          · rw [hset]
            rw [hv, Bool.true_or] at hstep
            rw [← hstep]
            refine hB3 _ ⟨((K + 1 : Nat) : Int), by omega, by omega⟩ [] (by simp only; omega) rfl ?_
            simp (maxSteps := 2000000) only [enA, ↓enP, Nat.reduceAdd, Nat.reduceMul, Nat.reduceSub, Nat.reduceLT, Nat.reduceLeDiff, Nat.reduceEqDiff, Nat.reduceBEq, ↓reduceIte, reduceCtorEq, fA]
        · have qk : ((K : Int) ≤ min 300 ((H : Int) + bend)) = False := eq_false hk
          have he : valB l bend i H K = reachB l bend i H := by
            unfold valB
            rw [if_neg h0]
            have := reachB_part (l := l) (bend := bend) (i := i - 1) (h := (H : Int)) (k := (K : Int)) (by rw [show i - 1 + 1 = i by omega, hs]; exact h1) (by rw [show i - 1 + 1 = i by omega, hs]; exact hh) (by omega)
            rw [show i - 1 + 1 = i by omega] at this
            exact this.symm
          simp (maxSteps := 2000000) only [vcA, ↓vcP, ↓reduceIte, reduceCtorEq, Nat.reduceAdd, Nat.reduceMul, Nat.reduceSub, Nat.reduceLT, Nat.reduceLeDiff, Nat.reduceEqDiff, Nat.reduceBEq, Nat.reduceBNe, Nat.reduceGT, Nat.reduceDiv, Nat.reduceMod, Int.reduceAdd, Int.reduceSub, Int.reduceNeg, Int.reduceLT, Int.reduceLE, Int.reduceEq, Int.reduceToNat, fA, qi, qk, e4, e6, e7, e9]
          rw [fin he]
          refine hB2 _ ⟨((H + 1 : Nat) : Int), by omega, by omega⟩ [] (by simp only; omega) rfl ?_
          simp (maxSteps := 2000000) only [enA, ↓enP, Nat.reduceAdd, Nat.reduceMul, Nat.reduceSub, Nat.reduceLT, Nat.reduceLeDiff, Nat.reduceEqDiff, Nat.reduceBEq, ↓reduceIte, reduceCtorEq, fA]
    · have qh : ((H : Int) ≤ s.2) = False := eq_false hh
      simp (maxSteps := 2000000) only [vcA, ↓vcP, ↓reduceIte, reduceCtorEq, Nat.reduceAdd, Nat.reduceMul, Nat.reduceSub, Nat.reduceLT, Nat.reduceLeDiff, Nat.reduceEqDiff, Nat.reduceBEq, Nat.reduceBNe, Nat.reduceGT, Nat.reduceDiv, Nat.reduceMod, Int.reduceAdd, Int.reduceSub, Int.reduceNeg, Int.reduceLT, Int.reduceLE, Int.reduceEq, Int.reduceToNat, fA, qc, qh, spR, hs]
      have hrl : (List.range i).length + 1 ≤ 1000 := by rw [List.length_range]; omega
      refine ⟨⟨by omega, by simp only [maxLen]; omega⟩, fun _ => hB _ ⟨i + 1, by omega⟩ [some 280] (by simp only; omega) rfl ?_⟩
      have : (rowB fun y => decide (y < (H : Int)) && reachB l bend i y) = rowB (reachB l bend i) := rowB_congr fun y hy => by
        by_cases e : (y : Int) < H
        · rw [decide_eq_true e]; rfl
        · rw [reachB_out (.inr (by rw [hs]; omega))]; simp
      rw [this]
      simp (maxSteps := 2000000) only [enA, ↓enP, Nat.reduceAdd, Nat.reduceMul, Nat.reduceSub, Nat.reduceLT, Nat.reduceLeDiff, Nat.reduceEqDiff, Nat.reduceBEq, ↓reduceIte, reduceCtorEq, fA]
      rw [List.length_range, e3, List.range_succ, List.map_append]
      exact ⟨⟨rfl, rfl⟩, rfl⟩
  · have qc : (i < l.length) = False := eq_false hc
    have : i = l.length := by omega
    subst this
    simp (maxSteps := 2000000) only [vcA, ↓vcP, ↓reduceIte, reduceCtorEq, Nat.reduceAdd, Nat.reduceMul, Nat.reduceSub, Nat.reduceLT, Nat.reduceLeDiff, Nat.reduceEqDiff, Nat.reduceBEq, Nat.reduceBNe, Nat.reduceGT, Nat.reduceDiv, Nat.reduceMod, Int.reduceAdd, Int.reduceSub, Int.reduceNeg, Int.reduceLT, Int.reduceLE, Int.reduceEq, Int.reduceToNat, fA, qc]
    refine hR _ (fin_of1 [some 40] ?_)
    simp (maxSteps := 2000000) only [enA, ↓enP, Nat.reduceAdd, Nat.reduceMul, Nat.reduceSub, Nat.reduceLT, Nat.reduceLeDiff, Nat.reduceEqDiff, Nat.reduceBEq, ↓reduceIte, reduceCtorEq, fA]
end Go.Proofs.Ytfaekiaegebmbaa.Ab.T01
