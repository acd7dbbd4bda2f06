/- Contracts of the outworkers' reference: who has more; fans; what must be given; what was moved. -/
import Derived.Test.YtfnohamcmidgbaaZE3
namespace Go.Proofs.Ytfnohamcmidgbaa.Ab.T07
open Go Go.RowKit
set_option linter.unusedVariables false
set_option linter.unusedSimpArgs false
set_option maxRecDepth 100000
/-! ### who has more -/
def mxN (l : List Sp) : Nat → Int × Int
  | 0 => (0, 0)
  | n + 1 => (max (mxN l n).1 (nth l n).1, max (mxN l n).2 (nth l n).2)
theorem mx_sure {h : Hs} {b : List En} {lim w : Int} (hl : 0 ≤ lim) {l : List Sp} : ∀ n : Nat, (∀ i, i < n → nth l i = has (acc h b w i nof)) → (((mxN l n).1 > lim) ↔ sureW h b lim w n = true) ∧ (((mxN l n).2 > lim) ↔ mayW h b lim w n = true)
  | 0, _ => by
    simp [mxN, sureW, mayW]
    omega
  | n + 1, hn => by
    obtain ⟨i1, i2⟩ := mx_sure hl (l := l) n fun i hi => hn i (by omega)
    rw [sureW_succ, mayW_succ, Bool.or_eq_true, Bool.or_eq_true, ← i1, ← i2]
    simp only [mxN, hn n (by omega), decide_eq_true_eq]
    omega
set_option maxHeartbeats 4000000 in
theorem rkept1_spec (h : Hs) (b : List En) (lim : Int) (hb : Ok h b) (hT : trueB h b nof = true) (hl0 : 0 ≤ lim) : SpecF Try.prog 27 [.agg [.v (.int .i64 h.sc), .sl 2 (h.tk.map spR), .sl 1 (h.lo.map iR)], .sl 4 (b.map enR), .v (.int .i64 lim)] (.tup [.ob 0 (keptL (fun w => sureW h b lim w h.tk.length) 6).length, .ob 1 (keptL (fun w => mayW h b lim w h.tk.length) 6).length])
    [.row 3 1 ((keptL (fun w => sureW h b lim w h.tk.length) 6).map iR) false, .row 3 1 ((keptL (fun w => mayW h b lim w h.tk.length) 6).map iR) false] := by
  have hlen := hb.hs.tk
  refine spec_go (N := 61) (rs := [.tmp 6, .tmp 7]) (eq := eqs) rfl rfl fun_27 rfl (by kernel_rfl) (by kernel_rfl) (by simp) (by simp) (by simp) (by simp) fun R hR => ?_
  simp (maxSteps := 2000000) only [vcA, ↓vcP, ↓reduceIte, reduceCtorEq, Nat.reduceAdd, Nat.reduceMul, Nat.reduceSub, Nat.reduceLT, Nat.reduceLeDiff, Nat.reduceEqDiff, Nat.reduceBEq, Nat.reduceBNe, Nat.reduceGT, Nat.reduceDiv, Nat.reduceMod, Int.reduceAdd, Int.reduceSub, Int.reduceNeg, Int.reduceLT, Int.reduceLE, Int.reduceEq, Int.reduceToNat, fA]
  refine goC_loop (α := {w : Nat // w ≤ 6}) (fun x => ⟨[(1, .sl 4 (b.map enR)), (2, .v (.int .i64 lim)), (3, .ptr 8 0), (8, .ob 72 (keptL (fun w => sureW h b lim w h.tk.length) x.1).length), (9, .ob 73 (keptL (fun w => mayW h b lim w h.tk.length) x.1).length), (10, .v (.int .i64 x.1))], [(8, .box 25 [.v (.int .i64 h.sc), .sl 2 (h.tk.map spR), .sl 1 (h.lo.map iR)]), (72, .row 3 1 ((keptL (fun w => sureW h b lim w h.tk.length) x.1).map iR) false), (73, .row 3 1 ((keptL (fun w => mayW h b lim w h.tk.length) x.1).map iR) false)]⟩) (fun x => 6 - x.1) ⟨0, by omega⟩ [some 32, some 40] ?_ ?_
  · skip
    simp (maxSteps := 2000000) only [enA, ↓enP, Nat.reduceAdd, Nat.reduceMul, Nat.reduceSub, Nat.reduceLT, Nat.reduceLeDiff, Nat.reduceEqDiff, Nat.reduceBEq, ↓reduceIte, reduceCtorEq, fA]
    exact ⟨⟨rfl, rfl, rfl⟩, rfl, rfl⟩
  intro x B hB
  obtain ⟨w, hw6⟩ := x
  by_cases c1 : w < 6
  · have q1 : ((w : Int) < 6) = True := eq_true (by omega)
    have e0 : IntKind.i64.wrap ((w : Int) + 1) = ((w + 1 : Nat) : Int) := wrap_id (by omega) (by omega)
    have l1 := keptL_le (fun w => sureW h b lim w h.tk.length) w
    have l2 := keptL_le (fun w => mayW h b lim w h.tk.length) w
    have s1 := keptL_succ (fun w => sureW h b lim w h.tk.length) w
    have s2 := keptL_succ (fun w => mayW h b lim w h.tk.length) w
    generalize keptL (fun w => sureW h b lim w h.tk.length) w = A1 at l1 s1 ⊢
    generalize keptL (fun w => mayW h b lim w h.tk.length) w = A2 at l2 s2 ⊢
    have hh := rhas_spec h b w hb hT (by omega)
    have hll := hasL_len h b w h.tk.length
    have hmx := mx_sure (h := h) (b := b) (w := w) hl0 (l := hasL h b w h.tk.length) h.tk.length fun i hi => hasL_nth hi
    generalize hasL h b w h.tk.length = L at hh hll hmx
    simp (maxSteps := 2000000) only [vcA, ↓vcP, ↓reduceIte, reduceCtorEq, Nat.reduceAdd, Nat.reduceMul, Nat.reduceSub, Nat.reduceLT, Nat.reduceLeDiff, Nat.reduceEqDiff, Nat.reduceBEq, Nat.reduceBNe, Nat.reduceGT, Nat.reduceDiv, Nat.reduceMod, Int.reduceAdd, Int.reduceSub, Int.reduceNeg, Int.reduceLT, Int.reduceLE, Int.reduceEq, Int.reduceToNat, fA, q1]
    refine onF_data hh ?_ ?_
    · simp (maxSteps := 2000000) only [okA, ↓okP, Nat.reduceAdd, Nat.reduceMul, Nat.reduceSub, Nat.reduceLT, Nat.reduceLeDiff, Nat.reduceEqDiff, Nat.reduceBEq, ↓reduceIte, reduceCtorEq]
    simp (maxSteps := 2000000) only [vcA, ↓vcP, ↓reduceIte, reduceCtorEq, Nat.reduceAdd, Nat.reduceMul, Nat.reduceSub, Nat.reduceLT, Nat.reduceLeDiff, Nat.reduceEqDiff, Nat.reduceBEq, Nat.reduceBNe, Nat.reduceGT, Nat.reduceDiv, Nat.reduceMod, Int.reduceAdd, Int.reduceSub, Int.reduceNeg, Int.reduceLT, Int.reduceLE, Int.reduceEq, Int.reduceToNat, fA]
    refine goC_loop (α := {i : Nat // i ≤ h.tk.length}) (fun x => ⟨[(1, .sl 4 (b.map enR)), (2, .v (.int .i64 lim)), (3, .ptr 8 0), (8, .ob 72 A1.length), (9, .ob 73 A2.length), (10, .v (.int .i64 w)), (11, .sl 2 (L.map spR)), (12, .v (.int .i64 (mxN L x.1).1)), (13, .v (.int .i64 (mxN L x.1).2)), (14, .v (.int .i64 x.1))], [(8, .box 25 [.v (.int .i64 h.sc), .sl 2 (h.tk.map spR), .sl 1 (h.lo.map iR)]), (72, .row 3 1 (A1.map iR) false), (73, .row 3 1 (A2.map iR) false)]⟩) (fun x => h.tk.length - x.1) ⟨0, by omega⟩ [] ?_ ?_
    · simp (maxSteps := 2000000) only [enA, ↓enP, Nat.reduceAdd, Nat.reduceMul, Nat.reduceSub, Nat.reduceLT, Nat.reduceLeDiff, Nat.reduceEqDiff, Nat.reduceBEq, ↓reduceIte, reduceCtorEq, fA]
      exact ⟨rfl, rfl, rfl⟩
    intro x B2 hB2
    obtain ⟨i, hi⟩ := x
    by_cases c2 : i < h.tk.length
    · have q2 : (i < h.tk.length) = True := eq_true c2
      have e3 : IntKind.i64.wrap ((i : Int) + 1) = ((i + 1 : Nat) : Int) := wrap_id (by omega) (by omega)
      simp (maxSteps := 2000000) only [vcA, ↓vcP, ↓reduceIte, reduceCtorEq, Nat.reduceAdd, Nat.reduceMul, Nat.reduceSub, Nat.reduceLT, Nat.reduceLeDiff, Nat.reduceEqDiff, Nat.reduceBEq, Nat.reduceBNe, Nat.reduceGT, Nat.reduceDiv, Nat.reduceMod, Int.reduceAdd, Int.reduceSub, Int.reduceNeg, Int.reduceLT, Int.reduceLE, Int.reduceEq, Int.reduceToNat, fA, q2, hll, spR, e3]
      repeat (first | refine ⟨by kernel_rfl, ?_⟩ | refine ⟨⟨by kernel_rfl, by kernel_rfl⟩, ?_⟩ | refine ⟨⟨by kernel_rfl, by kernel_rfl, by kernel_rfl⟩, ?_⟩ | refine ⟨⟨by kernel_rfl, by kernel_rfl, by kernel_rfl, by kernel_rfl⟩, ?_⟩ | refine ⟨⟨by kernel_rfl, by kernel_rfl, by kernel_rfl, by kernel_rfl, by kernel_rfl⟩, ?_⟩ | refine ⟨⟨by kernel_rfl, by kernel_rfl, by kernel_rfl, by kernel_rfl, by kernel_rfl, by kernel_rfl⟩, ?_⟩ | refine ⟨⟨by kernel_rfl, by kernel_rfl, by kernel_rfl, by kernel_rfl, by kernel_rfl, by kernel_rfl, by kernel_rfl⟩, ?_⟩ | refine ⟨⟨by kernel_rfl, by kernel_rfl, by kernel_rfl, by kernel_rfl, by kernel_rfl, by kernel_rfl, by kernel_rfl, by kernel_rfl⟩, ?_⟩ | refine ⟨⟨by kernel_rfl, by kernel_rfl, by kernel_rfl, by kernel_rfl, by kernel_rfl, by kernel_rfl, by kernel_rfl, by kernel_rfl, by kernel_rfl⟩, ?_⟩ | refine ⟨⟨by kernel_rfl, by kernel_rfl, by kernel_rfl, by kernel_rfl, by kernel_rfl, by kernel_rfl, by kernel_rfl, by kernel_rfl, by kernel_rfl, by kernel_rfl⟩, ?_⟩ | refine ⟨⟨by kernel_rfl, by kernel_rfl, by kernel_rfl, by kernel_rfl, by kernel_rfl, by kernel_rfl, by kernel_rfl, by kernel_rfl, by kernel_rfl, by kernel_rfl, by kernel_rfl⟩, ?_⟩ | refine ⟨⟨by kernel_rfl, by kernel_rfl, by kernel_rfl, by kernel_rfl, by kernel_rfl, by kernel_rfl, by kernel_rfl, by kernel_rfl, by kernel_rfl, by kernel_rfl, by kernel_rfl, by kernel_rfl⟩, ?_⟩ | refine ⟨⟨by kernel_rfl, by kernel_rfl, by kernel_rfl, by kernel_rfl, by kernel_rfl, by kernel_rfl, by kernel_rfl, by kernel_rfl, by kernel_rfl, by kernel_rfl, by kernel_rfl, by kernel_rfl, by kernel_rfl⟩, ?_⟩)
      refine hB2 _ ⟨i + 1, by omega⟩ [] (by simp only; omega) rfl ?_
      simp (maxSteps := 2000000) only [enA, ↓enP, Nat.reduceAdd, Nat.reduceMul, Nat.reduceSub, Nat.reduceLT, Nat.reduceLeDiff, Nat.reduceEqDiff, Nat.reduceBEq, ↓reduceIte, reduceCtorEq, fA]
      exact ⟨rfl, rfl⟩
    · have q2 : (i < h.tk.length) = False := eq_false c2
      have : i = h.tk.length := by omega
      subst this
      simp (maxSteps := 2000000) only [vcA, ↓vcP, ↓reduceIte, reduceCtorEq, Nat.reduceAdd, Nat.reduceMul, Nat.reduceSub, Nat.reduceLT, Nat.reduceLeDiff, Nat.reduceEqDiff, Nat.reduceBEq, Nat.reduceBNe, Nat.reduceGT, Nat.reduceDiv, Nat.reduceMod, Int.reduceAdd, Int.reduceSub, Int.reduceNeg, Int.reduceLT, Int.reduceLE, Int.reduceEq, Int.reduceToNat, fA, q2, hll]
      refine ⟨fun hs => ⟨⟨by omega, by simp only [maxLen]; omega⟩, fun _ => ⟨fun hm => ⟨⟨by omega, by simp only [maxLen]; omega⟩, fun _ => ?_⟩, fun hm => ?_⟩⟩, fun hs => ⟨fun hm => ⟨⟨by omega, by simp only [maxLen]; omega⟩, fun _ => ?_⟩, fun hm => ?_⟩⟩
      · have t1 : keptL (fun w => sureW h b lim w h.tk.length) (w + 1) = A1 ++ [(w : Int)] := by rw [s1]; exact if_pos (hmx.1.1 hs)
        have t2 : keptL (fun w => mayW h b lim w h.tk.length) (w + 1) = A2 ++ [(w : Int)] := by rw [s2]; exact if_pos (hmx.2.1 hm)
        refine hB _ ⟨w + 1, by omega⟩ [some 296, some 360] (by simp only; omega) rfl ?_
        rw [t1, t2]
        simp (maxSteps := 2000000) only [enA, ↓enP, Nat.reduceAdd, Nat.reduceMul, Nat.reduceSub, Nat.reduceLT, Nat.reduceLeDiff, Nat.reduceEqDiff, Nat.reduceBEq, ↓reduceIte, reduceCtorEq, fA, e0]
        try simp [iR, e0]
      · have t1 : keptL (fun w => sureW h b lim w h.tk.length) (w + 1) = A1 ++ [(w : Int)] := by rw [s1]; exact if_pos (hmx.1.1 hs)
        have t2 : keptL (fun w => mayW h b lim w h.tk.length) (w + 1) = A2 := by rw [s2]; exact if_neg (fun g => by have := hmx.2.2 g; omega)
        refine hB _ ⟨w + 1, by omega⟩ [some 296, some 73] (by simp only; omega) rfl ?_
        rw [t1, t2]
        simp (maxSteps := 2000000) only [enA, ↓enP, Nat.reduceAdd, Nat.reduceMul, Nat.reduceSub, Nat.reduceLT, Nat.reduceLeDiff, Nat.reduceEqDiff, Nat.reduceBEq, ↓reduceIte, reduceCtorEq, fA, e0]
        try simp [iR, e0]
      · have t1 : keptL (fun w => sureW h b lim w h.tk.length) (w + 1) = A1 := by rw [s1]; exact if_neg (fun g => by have := hmx.1.2 g; omega)
        have t2 : keptL (fun w => mayW h b lim w h.tk.length) (w + 1) = A2 ++ [(w : Int)] := by rw [s2]; exact if_pos (hmx.2.1 hm)
        refine hB _ ⟨w + 1, by omega⟩ [some 72, some 320] (by simp only; omega) rfl ?_
        rw [t1, t2]
        simp (maxSteps := 2000000) only [enA, ↓enP, Nat.reduceAdd, Nat.reduceMul, Nat.reduceSub, Nat.reduceLT, Nat.reduceLeDiff, Nat.reduceEqDiff, Nat.reduceBEq, ↓reduceIte, reduceCtorEq, fA, e0]
        try simp [iR, e0]
      · have t1 : keptL (fun w => sureW h b lim w h.tk.length) (w + 1) = A1 := by rw [s1]; exact if_neg (fun g => by have := hmx.1.2 g; omega)
        have t2 : keptL (fun w => mayW h b lim w h.tk.length) (w + 1) = A2 := by rw [s2]; exact if_neg (fun g => by have := hmx.2.2 g; omega)
        refine hB _ ⟨w + 1, by omega⟩ [some 72, some 73] (by simp only; omega) rfl ?_
        rw [t1, t2]
        simp (maxSteps := 2000000) only [enA, ↓enP, Nat.reduceAdd, Nat.reduceMul, Nat.reduceSub, Nat.reduceLT, Nat.reduceLeDiff, Nat.reduceEqDiff, Nat.reduceBEq, ↓reduceIte, reduceCtorEq, fA, e0]
        try simp [iR, e0]
  · have q1 : ((w : Int) < 6) = False := eq_false (by omega)
    have : w = 6 := by omega
    subst this
    simp (maxSteps := 2000000) only [vcA, ↓vcP, ↓reduceIte, reduceCtorEq, Nat.reduceAdd, Nat.reduceMul, Nat.reduceSub, Nat.reduceLT, Nat.reduceLeDiff, Nat.reduceEqDiff, Nat.reduceBEq, Nat.reduceBNe, Nat.reduceGT, Nat.reduceDiv, Nat.reduceMod, Int.reduceAdd, Int.reduceSub, Int.reduceNeg, Int.reduceLT, Int.reduceLE, Int.reduceEq, Int.reduceToNat, fA, q1]
    refine hR _ (fin_of1 [some 72, some 73] ?_)
    simp (maxSteps := 2000000) only [enA, ↓enP, Nat.reduceAdd, Nat.reduceMul, Nat.reduceSub, Nat.reduceLT, Nat.reduceLeDiff, Nat.reduceEqDiff, Nat.reduceBEq, ↓reduceIte, reduceCtorEq, fA]
/-! ### fans -/
theorem enough_iff {n X T : Int} (h1 : 1 ≤ n) (h2 : n ≤ 500) (hX : 0 ≤ X) (hT : 0 ≤ T) : n ≤ enoughI X T ↔ n * T ≤ X := by
  unfold enoughI
  by_cases c : T = 0
  · rw [if_pos c, c]; simp; omega
  · rw [if_neg c]
    have := Int.le_ediv_iff_mul_le (a := n) (b := X) (show 0 < T by omega)
    omega
def sureF (l tk : List Sp) (n : Int) (i : Nat) : Bool := (List.range i).all fun j => decide (n * (nth tk j).2 ≤ (nth l j).1)
def mayF (l tk : List Sp) (n : Int) (i : Nat) : Bool := (List.range i).all fun j => decide (n * (nth tk j).1 ≤ (nth l j).2)
theorem sureF_succ (l tk : List Sp) (n : Int) (i : Nat) : sureF l tk n (i + 1) = (sureF l tk n i && decide (n * (nth tk i).2 ≤ (nth l i).1)) := by simp [sureF, List.range_succ, List.all_append]
theorem mayF_succ (l tk : List Sp) (n : Int) (i : Nat) : mayF l tk n (i + 1) = (mayF l tk n i && decide (n * (nth tk i).1 ≤ (nth l i).2)) := by simp [mayF, List.range_succ, List.all_append]
theorem fansN_iff {l tk : List Sp} {n : Int} (h1 : 1 ≤ n) (h2 : n ≤ 500) : ∀ i : Nat, (∀ j, j < i → 0 ≤ (nth l j).1 ∧ 0 ≤ (nth l j).2 ∧ 0 ≤ (nth tk j).1 ∧ 0 ≤ (nth tk j).2) → (sureF l tk n i = true ↔ n ≤ (fansN l tk i).1) ∧ (mayF l tk n i = true ↔ n ≤ (fansN l tk i).2)
  | 0, _ => by simp [sureF, mayF, fansN]; exact h2
  | i + 1, hj => by
    obtain ⟨i1, i2⟩ := fansN_iff (l := l) (tk := tk) h1 h2 i fun j h => hj j (by omega)
    obtain ⟨g1, g2, g3, g4⟩ := hj i (by omega)
    have e1 := enough_iff h1 h2 g1 g4
    have e2 := enough_iff h1 h2 g2 g3
    rw [sureF_succ, mayF_succ, Bool.and_eq_true, Bool.and_eq_true, i1, i2]
    simp only [fansN, decide_eq_true_eq]
    omega
theorem fansN_bd {l tk : List Sp} : ∀ i : Nat, (∀ j, j < i → 0 ≤ (nth l j).1 ∧ 0 ≤ (nth l j).2 ∧ 0 ≤ (nth tk j).1 ∧ 0 ≤ (nth tk j).2) → 0 ≤ (fansN l tk i).1 ∧ (fansN l tk i).1 ≤ 500 ∧ 0 ≤ (fansN l tk i).2 ∧ (fansN l tk i).2 ≤ 500
  | 0, _ => by simp [fansN]
  | i + 1, hj => by
    have ih := fansN_bd (l := l) (tk := tk) i fun j h => hj j (by omega)
    obtain ⟨g1, g2, g3, g4⟩ := hj i (by omega)
    have e : ∀ X T : Int, 0 ≤ X → 0 ≤ T → 0 ≤ enoughI X T := fun X T hX hT => by
      unfold enoughI
      split
      · omega
      · have := Int.ediv_nonneg hX hT; omega
    have e1 := e _ _ g1 g4
    have e2 := e _ _ g2 g3
    simp only [fansN]
    omega
/-- The last number for which something holds. -/
def lastF (f : Int → Bool) : Nat → Int
  | 0 => 0
  | k + 1 => if f ((k + 1 : Nat) : Int) then ((k + 1 : Nat) : Int) else lastF f k
theorem lastF_min {f : Int → Bool} {M : Int} (h0 : 0 ≤ M) (hf : ∀ n : Int, 1 ≤ n → n ≤ 500 → (f n = true ↔ n ≤ M)) : ∀ k : Nat, k ≤ 500 → lastF f k = min M k
  | 0, _ => by simp [lastF]; omega
  | k + 1, hk => by
    have ih := lastF_min h0 hf k (by omega)
    have g := hf ((k + 1 : Nat) : Int) (by omega) (by omega)
    rw [lastF]
    by_cases c : ((k + 1 : Nat) : Int) ≤ M
    · rw [if_pos (g.2 c)]; omega
    · rw [if_neg (fun h => c (g.1 h)), ih]; omega
set_option maxHeartbeats 4000000 in
theorem rfans_spec (h : Hs) (l : List Sp) (hh : OkH h) (hl : l.length = h.tk.length) (hb : ∀ j, j < l.length → 0 ≤ (nth l j).1 ∧ 0 ≤ (nth l j).2) : SpecF Try.prog 30 [.agg [.v (.int .i64 h.sc), .sl 2 (h.tk.map spR), .sl 1 (h.lo.map iR)], .sl 2 (l.map spR)] (.tup [.v (.int .i64 (fansN l h.tk h.tk.length).1), .v (.int .i64 (fansN l h.tk h.tk.length).2)]) [] := by
  have hlen := hh.tk
  have hj : ∀ j, j < h.tk.length → 0 ≤ (nth l j).1 ∧ 0 ≤ (nth l j).2 ∧ 0 ≤ (nth h.tk j).1 ∧ 0 ≤ (nth h.tk j).2 := fun j hj => by
    have := hb j (by omega)
    have := hh.tks _ (nth_mem (l := h.tk) (i := j) hj)
    omega
  have fb := fansN_bd (l := l) (tk := h.tk) h.tk.length hj
  have F1 := lastF_min (f := fun n => sureF l h.tk n h.tk.length) fb.1 (fun n g1 g2 => (fansN_iff g1 g2 _ hj).1) 500 (by omega)
  have F2 := lastF_min (f := fun n => mayF l h.tk n h.tk.length) fb.2.2.1 (fun n g1 g2 => (fansN_iff g1 g2 _ hj).2) 500 (by omega)
  have E1 : (fansN l h.tk h.tk.length).1 = lastF (fun n => sureF l h.tk n h.tk.length) 500 := by omega
  have E2 : (fansN l h.tk h.tk.length).2 = lastF (fun n => mayF l h.tk n h.tk.length) 500 := by omega
  rw [E1, E2]
  refine spec_go (N := 62) (rs := [.tmp 4, .tmp 5]) (eq := eqs) rfl rfl fun_30 rfl (by kernel_rfl) (by kernel_rfl) (by simp) (by simp) (by simp) (by simp) fun R hR => ?_
  simp (maxSteps := 2000000) only [vcA, ↓vcP, ↓reduceIte, reduceCtorEq, Nat.reduceAdd, Nat.reduceMul, Nat.reduceSub, Nat.reduceLT, Nat.reduceLeDiff, Nat.reduceEqDiff, Nat.reduceBEq, Nat.reduceBNe, Nat.reduceGT, Nat.reduceDiv, Nat.reduceMod, Int.reduceAdd, Int.reduceSub, Int.reduceNeg, Int.reduceLT, Int.reduceLE, Int.reduceEq, Int.reduceToNat, fA]
  refine goC_loop (α := {n : Nat // n ≤ 500}) (fun x => ⟨[(1, .sl 2 (l.map spR)), (2, .ptr 8 0), (6, .v (.int .i64 (lastF (fun n => sureF l h.tk n h.tk.length) x.1))), (7, .v (.int .i64 (lastF (fun n => mayF l h.tk n h.tk.length) x.1))), (8, .v (.int .i64 ((x.1 + 1 : Nat) : Int)))], [(8, .box 25 [.v (.int .i64 h.sc), .sl 2 (h.tk.map spR), .sl 1 (h.lo.map iR)])]⟩) (fun x => 500 - x.1) ⟨0, by omega⟩ [] ?_ ?_
  · simp (maxSteps := 2000000) only [enA, ↓enP, Nat.reduceAdd, Nat.reduceMul, Nat.reduceSub, Nat.reduceLT, Nat.reduceLeDiff, Nat.reduceEqDiff, Nat.reduceBEq, ↓reduceIte, reduceCtorEq, fA]
    exact ⟨rfl, rfl, rfl⟩
  intro x B hB
  obtain ⟨n, hn⟩ := x
  have r1 : lastF (fun n => sureF l h.tk n h.tk.length) (n + 1) = if sureF l h.tk ((n + 1 : Nat) : Int) h.tk.length then ((n + 1 : Nat) : Int) else lastF (fun n => sureF l h.tk n h.tk.length) n := rfl
  have r2 : lastF (fun n => mayF l h.tk n h.tk.length) (n + 1) = if mayF l h.tk ((n + 1 : Nat) : Int) h.tk.length then ((n + 1 : Nat) : Int) else lastF (fun n => mayF l h.tk n h.tk.length) n := rfl
  by_cases c1 : n < 500
  · have q1 : (((n + 1 : Nat) : Int) ≤ 500) = True := eq_true (by omega)
    have e0 : IntKind.i64.wrap (((n + 1 : Nat) : Int) + 1) = ((n + 1 + 1 : Nat) : Int) := wrap_id (by omega) (by omega)
    generalize lastF (fun n => sureF l h.tk n h.tk.length) n = A1 at r1 ⊢
    generalize lastF (fun n => mayF l h.tk n h.tk.length) n = A2 at r2 ⊢
    simp (maxSteps := 2000000) only [vcA, ↓vcP, ↓reduceIte, reduceCtorEq, Nat.reduceAdd, Nat.reduceMul, Nat.reduceSub, Nat.reduceLT, Nat.reduceLeDiff, Nat.reduceEqDiff, Nat.reduceBEq, Nat.reduceBNe, Nat.reduceGT, Nat.reduceDiv, Nat.reduceMod, Int.reduceAdd, Int.reduceSub, Int.reduceNeg, Int.reduceLT, Int.reduceLE, Int.reduceEq, Int.reduceToNat, fA, q1]
    refine goC_loop (α := {i : Nat // i ≤ h.tk.length}) (fun x => ⟨[(1, .sl 2 (l.map spR)), (2, .ptr 8 0), (6, .v (.int .i64 A1)), (7, .v (.int .i64 A2)), (8, .v (.int .i64 ((n + 1 : Nat) : Int))), (9, .v (.bool (sureF l h.tk ((n + 1 : Nat) : Int) x.1))), (10, .v (.bool (mayF l h.tk ((n + 1 : Nat) : Int) x.1))), (11, .v (.int .i64 x.1))], [(8, .box 25 [.v (.int .i64 h.sc), .sl 2 (h.tk.map spR), .sl 1 (h.lo.map iR)])]⟩) (fun x => h.tk.length - x.1) ⟨0, by omega⟩ [] ?_ ?_
    · simp (maxSteps := 2000000) only [enA, ↓enP, Nat.reduceAdd, Nat.reduceMul, Nat.reduceSub, Nat.reduceLT, Nat.reduceLeDiff, Nat.reduceEqDiff, Nat.reduceBEq, ↓reduceIte, reduceCtorEq, fA]
      exact ⟨rfl, rfl, rfl⟩
    intro x B2 hB2
    obtain ⟨i, hi⟩ := x
    by_cases c2 : i < h.tk.length
    · have q2 : (i < h.tk.length) = True := eq_true c2
      have q3 : (i < l.length) = True := eq_true (by omega)
      have e3 : IntKind.i64.wrap ((i : Int) + 1) = ((i + 1 : Nat) : Int) := wrap_id (by omega) (by omega)
      have ht := hh.tks _ (nth_mem (l := h.tk) (i := i) c2)
      have m1 := mul_bd (a := ((n + 1 : Nat) : Int)) (b := (nth h.tk i).1) (M := 501) (N := 1000) (by omega) (by omega) (by omega) (by omega)
      have m2 := mul_bd (a := ((n + 1 : Nat) : Int)) (b := (nth h.tk i).2) (M := 501) (N := 1000) (by omega) (by omega) (by omega) (by omega)
      have w1 : IntKind.i64.wrap (((n + 1 : Nat) : Int) * (nth h.tk i).1) = ((n + 1 : Nat) : Int) * (nth h.tk i).1 := wrap_id (by omega) (by omega)
      have w2 : IntKind.i64.wrap (((n + 1 : Nat) : Int) * (nth h.tk i).2) = ((n + 1 : Nat) : Int) * (nth h.tk i).2 := wrap_id (by omega) (by omega)
      have s1 := sureF_succ l h.tk ((n + 1 : Nat) : Int) i
      have s2 := mayF_succ l h.tk ((n + 1 : Nat) : Int) i
      cases d1 : sureF l h.tk ((n + 1 : Nat) : Int) i <;> cases d2 : mayF l h.tk ((n + 1 : Nat) : Int) i
      all_goals
        rw [d1] at s1
        rw [d2] at s2
        simp (maxSteps := 2000000) only [vcA, ↓vcP, ↓reduceIte, reduceCtorEq, Nat.reduceAdd, Nat.reduceMul, Nat.reduceSub, Nat.reduceLT, Nat.reduceLeDiff, Nat.reduceEqDiff, Nat.reduceBEq, Nat.reduceBNe, Nat.reduceGT, Nat.reduceDiv, Nat.reduceMod, Int.reduceAdd, Int.reduceSub, Int.reduceNeg, Int.reduceLT, Int.reduceLE, Int.reduceEq, Int.reduceToNat, fA, q2, q3, hl, spR, e3, w1, w2, d1, d2]
        repeat (first | refine ⟨by kernel_rfl, ?_⟩ | refine ⟨⟨by kernel_rfl, by kernel_rfl⟩, ?_⟩ | refine ⟨⟨by kernel_rfl, by kernel_rfl, by kernel_rfl⟩, ?_⟩ | refine ⟨⟨by kernel_rfl, by kernel_rfl, by kernel_rfl, by kernel_rfl⟩, ?_⟩ | refine ⟨⟨by kernel_rfl, by kernel_rfl, by kernel_rfl, by kernel_rfl, by kernel_rfl⟩, ?_⟩ | refine ⟨⟨by kernel_rfl, by kernel_rfl, by kernel_rfl, by kernel_rfl, by kernel_rfl, by kernel_rfl⟩, ?_⟩ | refine ⟨⟨by kernel_rfl, by kernel_rfl, by kernel_rfl, by kernel_rfl, by kernel_rfl, by kernel_rfl, by kernel_rfl⟩, ?_⟩ | refine ⟨⟨by kernel_rfl, by kernel_rfl, by kernel_rfl, by kernel_rfl, by kernel_rfl, by kernel_rfl, by kernel_rfl, by kernel_rfl⟩, ?_⟩ | refine ⟨⟨by kernel_rfl, by kernel_rfl, by kernel_rfl, by kernel_rfl, by kernel_rfl, by kernel_rfl, by kernel_rfl, by kernel_rfl, by kernel_rfl⟩, ?_⟩ | refine ⟨⟨by kernel_rfl, by kernel_rfl, by kernel_rfl, by kernel_rfl, by kernel_rfl, by kernel_rfl, by kernel_rfl, by kernel_rfl, by kernel_rfl, by kernel_rfl⟩, ?_⟩ | refine ⟨⟨by kernel_rfl, by kernel_rfl, by kernel_rfl, by kernel_rfl, by kernel_rfl, by kernel_rfl, by kernel_rfl, by kernel_rfl, by kernel_rfl, by kernel_rfl, by kernel_rfl⟩, ?_⟩ | refine ⟨⟨by kernel_rfl, by kernel_rfl, by kernel_rfl, by kernel_rfl, by kernel_rfl, by kernel_rfl, by kernel_rfl, by kernel_rfl, by kernel_rfl, by kernel_rfl, by kernel_rfl, by kernel_rfl⟩, ?_⟩ | refine ⟨⟨by kernel_rfl, by kernel_rfl, by kernel_rfl, by kernel_rfl, by kernel_rfl, by kernel_rfl, by kernel_rfl, by kernel_rfl, by kernel_rfl, by kernel_rfl, by kernel_rfl, by kernel_rfl, by kernel_rfl⟩, ?_⟩)
        refine hB2 _ ⟨i + 1, by omega⟩ [] (by simp only; omega) rfl ?_
        rw [s1, s2]
        simp (maxSteps := 2000000) only [enA, ↓enP, Nat.reduceAdd, Nat.reduceMul, Nat.reduceSub, Nat.reduceLT, Nat.reduceLeDiff, Nat.reduceEqDiff, Nat.reduceBEq, ↓reduceIte, reduceCtorEq, fA]
        try simp
    · have q2 : (i < h.tk.length) = False := eq_false c2
      have : i = h.tk.length := by omega
      subst this
      cases d1 : sureF l h.tk ((n + 1 : Nat) : Int) h.tk.length <;> cases d2 : mayF l h.tk ((n + 1 : Nat) : Int) h.tk.length
      all_goals
        rw [d1] at r1
        rw [d2] at r2
        simp (maxSteps := 2000000) only [vcA, ↓vcP, ↓reduceIte, reduceCtorEq, Nat.reduceAdd, Nat.reduceMul, Nat.reduceSub, Nat.reduceLT, Nat.reduceLeDiff, Nat.reduceEqDiff, Nat.reduceBEq, Nat.reduceBNe, Nat.reduceGT, Nat.reduceDiv, Nat.reduceMod, Int.reduceAdd, Int.reduceSub, Int.reduceNeg, Int.reduceLT, Int.reduceLE, Int.reduceEq, Int.reduceToNat, fA, q2, hl, d1, d2, e0]
        refine hB _ ⟨n + 1, by omega⟩ [] (by simp only; omega) rfl ?_
        rw [r1, r2]
        simp (maxSteps := 2000000) only [enA, ↓enP, Nat.reduceAdd, Nat.reduceMul, Nat.reduceSub, Nat.reduceLT, Nat.reduceLeDiff, Nat.reduceEqDiff, Nat.reduceBEq, ↓reduceIte, reduceCtorEq, fA]
        try exact ⟨rfl, rfl⟩
  · have q1 : (((n + 1 : Nat) : Int) ≤ 500) = False := eq_false (by omega)
    have : n = 500 := by omega
    subst this
    simp (maxSteps := 2000000) only [vcA, ↓vcP, ↓reduceIte, reduceCtorEq, Nat.reduceAdd, Nat.reduceMul, Nat.reduceSub, Nat.reduceLT, Nat.reduceLeDiff, Nat.reduceEqDiff, Nat.reduceBEq, Nat.reduceBNe, Nat.reduceGT, Nat.reduceDiv, Nat.reduceMod, Int.reduceAdd, Int.reduceSub, Int.reduceNeg, Int.reduceLT, Int.reduceLE, Int.reduceEq, Int.reduceToNat, fA, q1]
    refine hR _ (fin_of0 ?_)
    simp (maxSteps := 2000000) only [enA, ↓enP, Nat.reduceAdd, Nat.reduceMul, Nat.reduceSub, Nat.reduceLT, Nat.reduceLeDiff, Nat.reduceEqDiff, Nat.reduceBEq, ↓reduceIte, reduceCtorEq, fA]
end Go.Proofs.Ytfnohamcmidgbaa.Ab.T07
