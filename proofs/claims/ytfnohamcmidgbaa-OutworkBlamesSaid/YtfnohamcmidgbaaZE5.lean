/- Contracts of the outworkers' reference: who has more; fans; what must be given; what was moved. Contracts of the outworkers' reference: what must be given; the best there can be; what was moved. -/
import Derived.Test.YtfnohamcmidgbaaZE3
namespace Go.Proofs.Ytfnohamcmidgbaa.Ab.T07
open Go Go.RowKit
set_option linter.unusedVariables false
set_option linter.unusedSimpArgs false
set_option maxRecDepth 100000
/-! ### who has more -/
def mxN (l : List Sp) : Nat → Int × Int
  | 0 => (0, 0)
  | n + 1 => (max (mxN l n).1 (nth l n).1, max (mxN l n).2 (nth l n).2)
theorem mx_sure {h : Hs} {b : List En} {lim w : Int} (hl : 0 ≤ lim) {l : List Sp} : ∀ n : Nat, (∀ i, i < n → nth l i = has (acc h b w i nof)) → (((mxN l n).1 > lim) ↔ sureW h b lim w n = true) ∧ (((mxN l n).2 > lim) ↔ mayW h b lim w n = true)
  | 0, _ => by
    simp [mxN, sureW, mayW]
    omega
  | n + 1, hn => by
    obtain ⟨i1, i2⟩ := mx_sure hl (l := l) n fun i hi => hn i (by omega)
    rw [sureW_succ, mayW_succ, Bool.or_eq_true, Bool.or_eq_true, ← i1, ← i2]
    simp only [mxN, hn n (by omega), decide_eq_true_eq]
    omega
set_option maxHeartbeats 4000000 in
theorem rkept1_spec (h : Hs) (b : List En) (lim : Int) (hb : Ok h b) (hT : trueB h b nof = true) (hl0 : 0 ≤ lim) : SpecF Try.prog 27 [.agg [.v (.int .i64 h.sc), .sl 2 (h.tk.map spR), .sl 1 (h.lo.map iR)], .sl 4 (b.map enR), .v (.int .i64 lim)] (.tup [.ob 0 (keptL (fun w => sureW h b lim w h.tk.length) 6).length, .ob 1 (keptL (fun w => mayW h b lim w h.tk.length) 6).length])
    [.row 3 1 ((keptL (fun w => sureW h b lim w h.tk.length) 6).map iR) false, .row 3 1 ((keptL (fun w => mayW h b lim w h.tk.length) 6).map iR) false] := by
  have hlen := hb.hs.tk
  refine spec_go (N := 61) (rs := [.tmp 6, .tmp 7]) (eq := eqs) rfl rfl fun_27 rfl (by kernel_rfl) (by kernel_rfl) (by simp) (by simp) (by simp) (by simp) fun R hR => ?_
  simp (maxSteps := 2000000) only [vcA, ↓vcP, ↓reduceIte, reduceCtorEq, Nat.reduceAdd, Nat.reduceMul, Nat.reduceSub, Nat.reduceLT, Nat.reduceLeDiff, Nat.reduceEqDiff, Nat.reduceBEq, Nat.reduceBNe, Nat.reduceGT, Nat.reduceDiv, Nat.reduceMod, Int.reduceAdd, Int.reduceSub, Int.reduceNeg, Int.reduceLT, Int.reduceLE, Int.reduceEq, Int.reduceToNat, fA]
  refine goC_loop (α := {w : Nat // w ≤ 6}) (fun x => ⟨[(1, .sl 4 (b.map enR)), (2, .v (.int .i64 lim)), (3, .ptr 8 0), (8, .ob 72 (keptL (fun w => sureW h b lim w h.tk.length) x.1).length), (9, .ob 73 (keptL (fun w => mayW h b lim w h.tk.length) x.1).length), (10, .v (.int .i64 x.1))], [(8, .box 25 [.v (.int .i64 h.sc), .sl 2 (h.tk.map spR), .sl 1 (h.lo.map iR)]), (72, .row 3 1 ((keptL (fun w => sureW h b lim w h.tk.length) x.1).map iR) false), (73, .row 3 1 ((keptL (fun w => mayW h b lim w h.tk.length) x.1).map iR) false)]⟩) (fun x => 6 - x.1) ⟨0, by omega⟩ [some 32, some 40] ?_ ?_
  · skip
    simp (maxSteps := 2000000) only [enA, ↓enP, Nat.reduceAdd, Nat.reduceMul, Nat.reduceSub, Nat.reduceLT, Nat.reduceLeDiff, Nat.reduceEqDiff, Nat.reduceBEq, ↓reduceIte, reduceCtorEq, fA]
    exact ⟨⟨rfl, rfl, rfl⟩, rfl, rfl⟩
  intro x B hB
  obtain ⟨w, hw6⟩ := x
  by_cases c1 : w < 6
  · have q1 : ((w : Int) < 6) = True := eq_true (by omega)
    have e0 : IntKind.i64.wrap ((w : Int) + 1) = ((w + 1 : Nat) : Int) := wrap_id (by omega) (by omega)
    have l1 := keptL_le (fun w => sureW h b lim w h.tk.length) w
    have l2 := keptL_le (fun w => mayW h b lim w h.tk.length) w
    have s1 := keptL_succ (fun w => sureW h b lim w h.tk.length) w
    have s2 := keptL_succ (fun w => mayW h b lim w h.tk.length) w
    generalize keptL (fun w => sureW h b lim w h.tk.length) w = A1 at l1 s1 ⊢
    generalize keptL (fun w => mayW h b lim w h.tk.length) w = A2 at l2 s2 ⊢
    have hh := rhas_spec h b w hb hT (by omega)
    have hll := hasL_len h b w h.tk.length
    have hmx := mx_sure (h := h) (b := b) (w := w) hl0 (l := hasL h b w h.tk.length) h.tk.length fun i hi => hasL_nth hi
    generalize hasL h b w h.tk.length = L at hh hll hmx
    simp (maxSteps := 2000000) only [vcA, ↓vcP, ↓reduceIte, reduceCtorEq, Nat.reduceAdd, Nat.reduceMul, Nat.reduceSub, Nat.reduceLT, Nat.reduceLeDiff, Nat.reduceEqDiff, Nat.reduceBEq, Nat.reduceBNe, Nat.reduceGT, Nat.reduceDiv, Nat.reduceMod, Int.reduceAdd, Int.reduceSub, Int.reduceNeg, Int.reduceLT, Int.reduceLE, Int.reduceEq, Int.reduceToNat, fA, q1]
    refine onF_data hh ?_ ?_
    · simp (maxSteps := 2000000) only [okA, ↓okP, Nat.reduceAdd, Nat.reduceMul, Nat.reduceSub, Nat.reduceLT, Nat.reduceLeDiff, Nat.reduceEqDiff, Nat.reduceBEq, ↓reduceIte, reduceCtorEq]
    simp (maxSteps := 2000000) only [vcA, ↓vcP, ↓reduceIte, reduceCtorEq, Nat.reduceAdd, Nat.reduceMul, Nat.reduceSub, Nat.reduceLT, Nat.reduceLeDiff, Nat.reduceEqDiff, Nat.reduceBEq, Nat.reduceBNe, Nat.reduceGT, Nat.reduceDiv, Nat.reduceMod, Int.reduceAdd, Int.reduceSub, Int.reduceNeg, Int.reduceLT, Int.reduceLE, Int.reduceEq, Int.reduceToNat, fA]
    refine goC_loop (α := {i : Nat // i ≤ h.tk.length}) (fun x => ⟨[(1, .sl 4 (b.map enR)), (2, .v (.int .i64 lim)), (3, .ptr 8 0), (8, .ob 72 A1.length), (9, .ob 73 A2.length), (10, .v (.int .i64 w)), (11, .sl 2 (L.map spR)), (12, .v (.int .i64 (mxN L x.1).1)), (13, .v (.int .i64 (mxN L x.1).2)), (14, .v (.int .i64 x.1))], [(8, .box 25 [.v (.int .i64 h.sc), .sl 2 (h.tk.map spR), .sl 1 (h.lo.map iR)]), (72, .row 3 1 (A1.map iR) false), (73, .row 3 1 (A2.map iR) false)]⟩) (fun x => h.tk.length - x.1) ⟨0, by omega⟩ [] ?_ ?_
    · simp (maxSteps := 2000000) only [enA, ↓enP, Nat.reduceAdd, Nat.reduceMul, Nat.reduceSub, Nat.reduceLT, Nat.reduceLeDiff, Nat.reduceEqDiff, Nat.reduceBEq, ↓reduceIte, reduceCtorEq, fA]
      exact ⟨rfl, rfl, rfl⟩
    intro x B2 hB2
    obtain ⟨i, hi⟩ := x
    by_cases c2 : i < h.tk.length
    · have q2 : (i < h.tk.length) = True := eq_true c2
      have e3 : IntKind.i64.wrap ((i : Int) + 1) = ((i + 1 : Nat) : Int) := wrap_id (by omega) (by omega)
      simp (maxSteps := 2000000) only [vcA, ↓vcP, ↓reduceIte, reduceCtorEq, Nat.reduceAdd, Nat.reduceMul, Nat.reduceSub, Nat.reduceLT, Nat.reduceLeDiff, Nat.reduceEqDiff, Nat.reduceBEq, Nat.reduceBNe, Nat.reduceGT, Nat.reduceDiv, Nat.reduceMod, Int.reduceAdd, Int.reduceSub, Int.reduceNeg, Int.reduceLT, Int.reduceLE, Int.reduceEq, Int.reduceToNat, fA, q2, hll, spR, e3]
      repeat (first | refine ⟨by kernel_rfl, ?_⟩ | refine ⟨⟨by kernel_rfl, by kernel_rfl⟩, ?_⟩ | refine ⟨⟨by kernel_rfl, by kernel_rfl, by kernel_rfl⟩, ?_⟩ | refine ⟨⟨by kernel_rfl, by kernel_rfl, by kernel_rfl, by kernel_rfl⟩, ?_⟩ | refine ⟨⟨by kernel_rfl, by kernel_rfl, by kernel_rfl, by kernel_rfl, by kernel_rfl⟩, ?_⟩ | refine ⟨⟨by kernel_rfl, by kernel_rfl, by kernel_rfl, by kernel_rfl, by kernel_rfl, by kernel_rfl⟩, ?_⟩ | refine ⟨⟨by kernel_rfl, by kernel_rfl, by kernel_rfl, by kernel_rfl, by kernel_rfl, by kernel_rfl, by kernel_rfl⟩, ?_⟩ | refine ⟨⟨by kernel_rfl, by kernel_rfl, by kernel_rfl, by kernel_rfl, by kernel_rfl, by kernel_rfl, by kernel_rfl, by kernel_rfl⟩, ?_⟩ | refine ⟨⟨by kernel_rfl, by kernel_rfl, by kernel_rfl, by kernel_rfl, by kernel_rfl, by kernel_rfl, by kernel_rfl, by kernel_rfl, by kernel_rfl⟩, ?_⟩ | refine ⟨⟨by kernel_rfl, by kernel_rfl, by kernel_rfl, by kernel_rfl, by kernel_rfl, by kernel_rfl, by kernel_rfl, by kernel_rfl, by kernel_rfl, by kernel_rfl⟩, ?_⟩ | refine ⟨⟨by kernel_rfl, by kernel_rfl, by kernel_rfl, by kernel_rfl, by kernel_rfl, by kernel_rfl, by kernel_rfl, by kernel_rfl, by kernel_rfl, by kernel_rfl, by kernel_rfl⟩, ?_⟩ | refine ⟨⟨by kernel_rfl, by kernel_rfl, by kernel_rfl, by kernel_rfl, by kernel_rfl, by kernel_rfl, by kernel_rfl, by kernel_rfl, by kernel_rfl, by kernel_rfl, by kernel_rfl, by kernel_rfl⟩, ?_⟩ | refine ⟨⟨by kernel_rfl, by kernel_rfl, by kernel_rfl, by kernel_rfl, by kernel_rfl, by kernel_rfl, by kernel_rfl, by kernel_rfl, by kernel_rfl, by kernel_rfl, by kernel_rfl, by kernel_rfl, by kernel_rfl⟩, ?_⟩)
      refine hB2 _ ⟨i + 1, by omega⟩ [] (by simp only; omega) rfl ?_
      simp (maxSteps := 2000000) only [enA, ↓enP, Nat.reduceAdd, Nat.reduceMul, Nat.reduceSub, Nat.reduceLT, Nat.reduceLeDiff, Nat.reduceEqDiff, Nat.reduceBEq, ↓reduceIte, reduceCtorEq, fA]
      exact ⟨rfl, rfl⟩
    · have q2 : (i < h.tk.length) = False := eq_false c2
      have : i = h.tk.length := by omega
      subst this
      simp (maxSteps := 2000000) only [vcA, ↓vcP, ↓reduceIte, reduceCtorEq, Nat.reduceAdd, Nat.reduceMul, Nat.reduceSub, Nat.reduceLT, Nat.reduceLeDiff, Nat.reduceEqDiff, Nat.reduceBEq, Nat.reduceBNe, Nat.reduceGT, Nat.reduceDiv, Nat.reduceMod, Int.reduceAdd, Int.reduceSub, Int.reduceNeg, Int.reduceLT, Int.reduceLE, Int.reduceEq, Int.reduceToNat, fA, q2, hll]
      refine ⟨fun hs => ⟨⟨by omega, by simp only [maxLen]; omega⟩, fun _ => ⟨fun hm => ⟨⟨by omega, by simp only [maxLen]; omega⟩, fun _ => ?_⟩, fun hm => ?_⟩⟩, fun hs => ⟨fun hm => ⟨⟨by omega, by simp only [maxLen]; omega⟩, fun _ => ?_⟩, fun hm => ?_⟩⟩
      · have t1 : keptL (fun w => sureW h b lim w h.tk.length) (w + 1) = A1 ++ [(w : Int)] := by rw [s1]; exact if_pos (hmx.1.1 hs)
        have t2 : keptL (fun w => mayW h b lim w h.tk.length) (w + 1) = A2 ++ [(w : Int)] := by rw [s2]; exact if_pos (hmx.2.1 hm)
        refine hB _ ⟨w + 1, by omega⟩ [some 296, some 360] (by simp only; omega) rfl ?_
        rw [t1, t2]
        simp (maxSteps := 2000000) only [enA, ↓enP, Nat.reduceAdd, Nat.reduceMul, Nat.reduceSub, Nat.reduceLT, Nat.reduceLeDiff, Nat.reduceEqDiff, Nat.reduceBEq, ↓reduceIte, reduceCtorEq, fA, e0]
        try simp [iR, e0]
      · have t1 : keptL (fun w => sureW h b lim w h.tk.length) (w + 1) = A1 ++ [(w : Int)] := by rw [s1]; exact if_pos (hmx.1.1 hs)
        have t2 : keptL (fun w => mayW h b lim w h.tk.length) (w + 1) = A2 := by rw [s2]; exact if_neg (fun g => by have := hmx.2.2 g; omega)
        refine hB _ ⟨w + 1, by omega⟩ [some 296, some 73] (by simp only; omega) rfl ?_
        rw [t1, t2]
        simp (maxSteps := 2000000) only [enA, ↓enP, Nat.reduceAdd, Nat.reduceMul, Nat.reduceSub, Nat.reduceLT, Nat.reduceLeDiff, Nat.reduceEqDiff, Nat.reduceBEq, ↓reduceIte, reduceCtorEq, fA, e0]
        try simp [iR, e0]
      · have t1 : keptL (fun w => sureW h b lim w h.tk.length) (w + 1) = A1 := by rw [s1]; exact if_neg (fun g => by have := hmx.1.2 g; omega)
        have t2 : keptL (fun w => mayW h b lim w h.tk.length) (w + 1) = A2 ++ [(w : Int)] := by rw [s2]; exact if_pos (hmx.2.1 hm)
        refine hB _ ⟨w + 1, by omega⟩ [some 72, some 320] (by simp only; omega) rfl ?_
        rw [t1, t2]
        simp (maxSteps := 2000000) only [enA, ↓enP, Nat.reduceAdd, Nat.reduceMul, Nat.reduceSub, Nat.reduceLT, Nat.reduceLeDiff, Nat.reduceEqDiff, Nat.reduceBEq, ↓reduceIte, reduceCtorEq, fA, e0]
        try simp [iR, e0]
      · have t1 : keptL (fun w => sureW h b lim w h.tk.length) (w + 1) = A1 := by rw [s1]; exact if_neg (fun g => by have := hmx.1.2 g; omega)
        have t2 : keptL (fun w => mayW h b lim w h.tk.length) (w + 1) = A2 := by rw [s2]; exact if_neg (fun g => by have := hmx.2.2 g; omega)
        refine hB _ ⟨w + 1, by omega⟩ [some 72, some 73] (by simp only; omega) rfl ?_
        rw [t1, t2]
        simp (maxSteps := 2000000) only [enA, ↓enP, Nat.reduceAdd, Nat.reduceMul, Nat.reduceSub, Nat.reduceLT, Nat.reduceLeDiff, Nat.reduceEqDiff, Nat.reduceBEq, ↓reduceIte, reduceCtorEq, fA, e0]
        try simp [iR, e0]
  · have q1 : ((w : Int) < 6) = False := eq_false (by omega)
    have : w = 6 := by omega
    subst this
    simp (maxSteps := 2000000) only [vcA, ↓vcP, ↓reduceIte, reduceCtorEq, Nat.reduceAdd, Nat.reduceMul, Nat.reduceSub, Nat.reduceLT, Nat.reduceLeDiff, Nat.reduceEqDiff, Nat.reduceBEq, Nat.reduceBNe, Nat.reduceGT, Nat.reduceDiv, Nat.reduceMod, Int.reduceAdd, Int.reduceSub, Int.reduceNeg, Int.reduceLT, Int.reduceLE, Int.reduceEq, Int.reduceToNat, fA, q1]
    refine hR _ (fin_of1 [some 72, some 73] ?_)
    simp (maxSteps := 2000000) only [enA, ↓enP, Nat.reduceAdd, Nat.reduceMul, Nat.reduceSub, Nat.reduceLT, Nat.reduceLeDiff, Nat.reduceEqDiff, Nat.reduceBEq, ↓reduceIte, reduceCtorEq, fA]
/-! ### fans -/
theorem enough_iff {n X T : Int} (h1 : 1 ≤ n) (h2 : n ≤ 500) (hX : 0 ≤ X) (hT : 0 ≤ T) : n ≤ enoughI X T ↔ n * T ≤ X := by
  unfold enoughI
  by_cases c : T = 0
  · rw [if_pos c, c]; simp; omega
  · rw [if_neg c]
    have := Int.le_ediv_iff_mul_le (a := n) (b := X) (show 0 < T by omega)
    omega
def sureF (l tk : List Sp) (n : Int) (i : Nat) : Bool := (List.range i).all fun j => decide (n * (nth tk j).2 ≤ (nth l j).1)
def mayF (l tk : List Sp) (n : Int) (i : Nat) : Bool := (List.range i).all fun j => decide (n * (nth tk j).1 ≤ (nth l j).2)
theorem sureF_succ (l tk : List Sp) (n : Int) (i : Nat) : sureF l tk n (i + 1) = (sureF l tk n i && decide (n * (nth tk i).2 ≤ (nth l i).1)) := by simp [sureF, List.range_succ, List.all_append]
theorem mayF_succ (l tk : List Sp) (n : Int) (i : Nat) : mayF l tk n (i + 1) = (mayF l tk n i && decide (n * (nth tk i).1 ≤ (nth l i).2)) := by simp [mayF, List.range_succ, List.all_append]
theorem fansN_iff {l tk : List Sp} {n : Int} (h1 : 1 ≤ n) (h2 : n ≤ 500) : ∀ i : Nat, (∀ j, j < i → 0 ≤ (nth l j).1 ∧ 0 ≤ (nth l j).2 ∧ 0 ≤ (nth tk j).1 ∧ 0 ≤ (nth tk j).2) → (sureF l tk n i = true ↔ n ≤ (fansN l tk i).1) ∧ (mayF l tk n i = true ↔ n ≤ (fansN l tk i).2)
  | 0, _ => by simp [sureF, mayF, fansN]; exact h2
  | i + 1, hj => by
    obtain ⟨i1, i2⟩ := fansN_iff (l := l) (tk := tk) h1 h2 i fun j h => hj j (by omega)
    obtain ⟨g1, g2, g3, g4⟩ := hj i (by omega)
    have e1 := enough_iff h1 h2 g1 g4
    have e2 := enough_iff h1 h2 g2 g3
    rw [sureF_succ, mayF_succ, Bool.and_eq_true, Bool.and_eq_true, i1, i2]
    simp only [fansN, decide_eq_true_eq]
    omega
theorem fansN_bd {l tk : List Sp} : ∀ i : Nat, (∀ j, j < i → 0 ≤ (nth l j).1 ∧ 0 ≤ (nth l j).2 ∧ 0 ≤ (nth tk j).1 ∧ 0 ≤ (nth tk j).2) → 0 ≤ (fansN l tk i).1 ∧ (fansN l tk i).1 ≤ 500 ∧ 0 ≤ (fansN l tk i).2 ∧ (fansN l tk i).2 ≤ 500
  | 0, _ => by simp [fansN]
  | i + 1, hj => by
    have ih := fansN_bd (l := l) (tk := tk) i fun j h => hj j (by omega)
    obtain ⟨g1, g2, g3, g4⟩ := hj i (by omega)
    have e : ∀ X T : Int, 0 ≤ X → 0 ≤ T → 0 ≤ enoughI X T := fun X T hX hT => by
      unfold enoughI
      split
      · omega
      · have := Int.ediv_nonneg hX hT; omega
    have e1 := e _ _ g1 g4
    have e2 := e _ _ g2 g3
    simp only [fansN]
    omega
/-- The last number for which something holds. -/
def lastF (f : Int → Bool) : Nat → Int
  | 0 => 0
  | k + 1 => if f ((k + 1 : Nat) : Int) then ((k + 1 : Nat) : Int) else lastF f k
theorem lastF_min {f : Int → Bool} {M : Int} (h0 : 0 ≤ M) (hf : ∀ n : Int, 1 ≤ n → n ≤ 500 → (f n = true ↔ n ≤ M)) : ∀ k : Nat, k ≤ 500 → lastF f k = min M k
  | 0, _ => by simp [lastF]; omega
  | k + 1, hk => by
    have ih := lastF_min h0 hf k (by omega)
    have g := hf ((k + 1 : Nat) : Int) (by omega) (by omega)
    rw [lastF]
    by_cases c : ((k + 1 : Nat) : Int) ≤ M
    · rw [if_pos (g.2 c)]; omega
    · rw [if_neg (fun h => c (g.1 h)), ih]; omega
set_option maxHeartbeats 4000000 in
theorem rfans_spec (h : Hs) (l : List Sp) (hh : OkH h) (hl : l.length = h.tk.length) (hb : ∀ j, j < l.length → 0 ≤ (nth l j).1 ∧ 0 ≤ (nth l j).2) : SpecF Try.prog 30 [.agg [.v (.int .i64 h.sc), .sl 2 (h.tk.map spR), .sl 1 (h.lo.map iR)], .sl 2 (l.map spR)] (.tup [.v (.int .i64 (fansN l h.tk h.tk.length).1), .v (.int .i64 (fansN l h.tk h.tk.length).2)]) [] := by
  have hlen := hh.tk
  have hj : ∀ j, j < h.tk.length → 0 ≤ (nth l j).1 ∧ 0 ≤ (nth l j).2 ∧ 0 ≤ (nth h.tk j).1 ∧ 0 ≤ (nth h.tk j).2 := fun j hj => by
    have := hb j (by omega)
    have := hh.tks _ (nth_mem (l := h.tk) (i := j) hj)
    omega
  have fb := fansN_bd (l := l) (tk := h.tk) h.tk.length hj
  have F1 := lastF_min (f := fun n => sureF l h.tk n h.tk.length) fb.1 (fun n g1 g2 => (fansN_iff g1 g2 _ hj).1) 500 (by omega)
  have F2 := lastF_min (f := fun n => mayF l h.tk n h.tk.length) fb.2.2.1 (fun n g1 g2 => (fansN_iff g1 g2 _ hj).2) 500 (by omega)
  have E1 : (fansN l h.tk h.tk.length).1 = lastF (fun n => sureF l h.tk n h.tk.length) 500 := by omega
  have E2 : (fansN l h.tk h.tk.length).2 = lastF (fun n => mayF l h.tk n h.tk.length) 500 := by omega
  rw [E1, E2]
  refine spec_go (N := 62) (rs := [.tmp 4, .tmp 5]) (eq := eqs) rfl rfl fun_30 rfl (by kernel_rfl) (by kernel_rfl) (by simp) (by simp) (by simp) (by simp) fun R hR => ?_
  simp (maxSteps := 2000000) only [vcA, ↓vcP, ↓reduceIte, reduceCtorEq, Nat.reduceAdd, Nat.reduceMul, Nat.reduceSub, Nat.reduceLT, Nat.reduceLeDiff, Nat.reduceEqDiff, Nat.reduceBEq, Nat.reduceBNe, Nat.reduceGT, Nat.reduceDiv, Nat.reduceMod, Int.reduceAdd, Int.reduceSub, Int.reduceNeg, Int.reduceLT, Int.reduceLE, Int.reduceEq, Int.reduceToNat, fA]
  refine goC_loop (α := {n : Nat // n ≤ 500}) (fun x => ⟨[(1, .sl 2 (l.map spR)), (2, .ptr 8 0), (6, .v (.int .i64 (lastF (fun n => sureF l h.tk n h.tk.length) x.1))), (7, .v (.int .i64 (lastF (fun n => mayF l h.tk n h.tk.length) x.1))), (8, .v (.int .i64 ((x.1 + 1 : Nat) : Int)))], [(8, .box 25 [.v (.int .i64 h.sc), .sl 2 (h.tk.map spR), .sl 1 (h.lo.map iR)])]⟩) (fun x => 500 - x.1) ⟨0, by omega⟩ [] ?_ ?_
  · simp (maxSteps := 2000000) only [enA, ↓enP, Nat.reduceAdd, Nat.reduceMul, Nat.reduceSub, Nat.reduceLT, Nat.reduceLeDiff, Nat.reduceEqDiff, Nat.reduceBEq, ↓reduceIte, reduceCtorEq, fA]
    exact ⟨rfl, rfl, rfl⟩
  intro x B hB
  obtain ⟨n, hn⟩ := x
  have r1 : lastF (fun n => sureF l h.tk n h.tk.length) (n + 1) = if sureF l h.tk ((n + 1 : Nat) : Int) h.tk.length then ((n + 1 : Nat) : Int) else lastF (fun n => sureF l h.tk n h.tk.length) n := rfl
  have r2 : lastF (fun n => mayF l h.tk n h.tk.length) (n + 1) = if mayF l h.tk ((n + 1 : Nat) : Int) h.tk.length then ((n + 1 : Nat) : Int) else lastF (fun n => mayF l h.tk n h.tk.length) n := rfl
  by_cases c1 : n < 500
  · have q1 : (((n + 1 : Nat) : Int) ≤ 500) = True := eq_true (by omega)
    have e0 : IntKind.i64.wrap (((n + 1 : Nat) : Int) + 1) = ((n + 1 + 1 : Nat) : Int) := wrap_id (by omega) (by omega)
    generalize lastF (fun n => sureF l h.tk n h.tk.length) n = A1 at r1 ⊢
    generalize lastF (fun n => mayF l h.tk n h.tk.length) n = A2 at r2 ⊢
    simp (maxSteps := 2000000) only [vcA, ↓vcP, ↓reduceIte, reduceCtorEq, Nat.reduceAdd, Nat.reduceMul, Nat.reduceSub, Nat.reduceLT, Nat.reduceLeDiff, Nat.reduceEqDiff, Nat.reduceBEq, Nat.reduceBNe, Nat.reduceGT, Nat.reduceDiv, Nat.reduceMod, Int.reduceAdd, Int.reduceSub, Int.reduceNeg, Int.reduceLT, Int.reduceLE, Int.reduceEq, Int.reduceToNat, fA, q1]
    refine goC_loop (α := {i : Nat // i ≤ h.tk.length}) (fun x => ⟨[(1, .sl 2 (l.map spR)), (2, .ptr 8 0), (6, .v (.int .i64 A1)), (7, .v (.int .i64 A2)), (8, .v (.int .i64 ((n + 1 : Nat) : Int))), (9, .v (.bool (sureF l h.tk ((n + 1 : Nat) : Int) x.1))), (10, .v (.bool (mayF l h.tk ((n + 1 : Nat) : Int) x.1))), (11, .v (.int .i64 x.1))], [(8, .box 25 [.v (.int .i64 h.sc), .sl 2 (h.tk.map spR), .sl 1 (h.lo.map iR)])]⟩) (fun x => h.tk.length - x.1) ⟨0, by omega⟩ [] ?_ ?_
    · simp (maxSteps := 2000000) only [enA, ↓enP, Nat.reduceAdd, Nat.reduceMul, Nat.reduceSub, Nat.reduceLT, Nat.reduceLeDiff, Nat.reduceEqDiff, Nat.reduceBEq, ↓reduceIte, reduceCtorEq, fA]
      exact ⟨rfl, rfl, rfl⟩
    intro x B2 hB2
    obtain ⟨i, hi⟩ := x
    by_cases c2 : i < h.tk.length
    · have q2 : (i < h.tk.length) = True := eq_true c2
      have q3 : (i < l.length) = True := eq_true (by omega)
      have e3 : IntKind.i64.wrap ((i : Int) + 1) = ((i + 1 : Nat) : Int) := wrap_id (by omega) (by omega)
      have ht := hh.tks _ (nth_mem (l := h.tk) (i := i) c2)
      have m1 := mul_bd (a := ((n + 1 : Nat) : Int)) (b := (nth h.tk i).1) (M := 501) (N := 1000) (by omega) (by omega) (by omega) (by omega)
      have m2 := mul_bd (a := ((n + 1 : Nat) : Int)) (b := (nth h.tk i).2) (M := 501) (N := 1000) (by omega) (by omega) (by omega) (by omega)
      have w1 : IntKind.i64.wrap (((n + 1 : Nat) : Int) * (nth h.tk i).1) = ((n + 1 : Nat) : Int) * (nth h.tk i).1 := wrap_id (by omega) (by omega)
      have w2 : IntKind.i64.wrap (((n + 1 : Nat) : Int) * (nth h.tk i).2) = ((n + 1 : Nat) : Int) * (nth h.tk i).2 := wrap_id (by omega) (by omega)
      have s1 := sureF_succ l h.tk ((n + 1 : Nat) : Int) i
      have s2 := mayF_succ l h.tk ((n + 1 : Nat) : Int) i
      cases d1 : sureF l h.tk ((n + 1 : Nat) : Int) i <;> cases d2 : mayF l h.tk ((n + 1 : Nat) : Int) i
      all_goals
        rw [d1] at s1
        rw [d2] at s2
        simp (maxSteps := 2000000) only [vcA, ↓vcP, ↓reduceIte, reduceCtorEq, Nat.reduceAdd, Nat.reduceMul, Nat.reduceSub, Nat.reduceLT, Nat.reduceLeDiff, Nat.reduceEqDiff, Nat.reduceBEq, Nat.reduceBNe, Nat.reduceGT, Nat.reduceDiv, Nat.reduceMod, Int.reduceAdd, Int.reduceSub, Int.reduceNeg, Int.reduceLT, Int.reduceLE, Int.reduceEq, Int.reduceToNat, fA, q2, q3, hl, spR, e3, w1, w2, d1, d2]
        repeat (first | refine ⟨by kernel_rfl, ?_⟩ | refine ⟨⟨by kernel_rfl, by kernel_rfl⟩, ?_⟩ | refine ⟨⟨by kernel_rfl, by kernel_rfl, by kernel_rfl⟩, ?_⟩ | refine ⟨⟨by kernel_rfl, by kernel_rfl, by kernel_rfl, by kernel_rfl⟩, ?_⟩ | refine ⟨⟨by kernel_rfl, by kernel_rfl, by kernel_rfl, by kernel_rfl, by kernel_rfl⟩, ?_⟩ | refine ⟨⟨by kernel_rfl, by kernel_rfl, by kernel_rfl, by kernel_rfl, by kernel_rfl, by kernel_rfl⟩, ?_⟩ | refine ⟨⟨by kernel_rfl, by kernel_rfl, by kernel_rfl, by kernel_rfl, by kernel_rfl, by kernel_rfl, by kernel_rfl⟩, ?_⟩ | refine ⟨⟨by kernel_rfl, by kernel_rfl, by kernel_rfl, by kernel_rfl, by kernel_rfl, by kernel_rfl, by kernel_rfl, by kernel_rfl⟩, ?_⟩ | refine ⟨⟨by kernel_rfl, by kernel_rfl, by kernel_rfl, by kernel_rfl, by kernel_rfl, by kernel_rfl, by kernel_rfl, by kernel_rfl, by kernel_rfl⟩, ?_⟩ | refine ⟨⟨by kernel_rfl, by kernel_rfl, by kernel_rfl, by kernel_rfl, by kernel_rfl, by kernel_rfl, by kernel_rfl, by kernel_rfl, by kernel_rfl, by kernel_rfl⟩, ?_⟩ | refine ⟨⟨by kernel_rfl, by kernel_rfl, by kernel_rfl, by kernel_rfl, by kernel_rfl, by kernel_rfl, by kernel_rfl, by kernel_rfl, by kernel_rfl, by kernel_rfl, by kernel_rfl⟩, ?_⟩ | refine ⟨⟨by kernel_rfl, by kernel_rfl, by kernel_rfl, by kernel_rfl, by kernel_rfl, by kernel_rfl, by kernel_rfl, by kernel_rfl, by kernel_rfl, by kernel_rfl, by kernel_rfl, by kernel_rfl⟩, ?_⟩ | refine ⟨⟨by kernel_rfl, by kernel_rfl, by kernel_rfl, by kernel_rfl, by kernel_rfl, by kernel_rfl, by kernel_rfl, by kernel_rfl, by kernel_rfl, by kernel_rfl, by kernel_rfl, by kernel_rfl, by kernel_rfl⟩, ?_⟩)
        refine hB2 _ ⟨i + 1, by omega⟩ [] (by simp only; omega) rfl ?_
        rw [s1, s2]
        simp (maxSteps := 2000000) only [enA, ↓enP, Nat.reduceAdd, Nat.reduceMul, Nat.reduceSub, Nat.reduceLT, Nat.reduceLeDiff, Nat.reduceEqDiff, Nat.reduceBEq, ↓reduceIte, reduceCtorEq, fA]
        try simp
    · have q2 : (i < h.tk.length) = False := eq_false c2
      have : i = h.tk.length := by omega
      subst this
      cases d1 : sureF l h.tk ((n + 1 : Nat) : Int) h.tk.length <;> cases d2 : mayF l h.tk ((n + 1 : Nat) : Int) h.tk.length
      all_goals
        rw [d1] at r1
        rw [d2] at r2
        simp (maxSteps := 2000000) only [vcA, ↓vcP, ↓reduceIte, reduceCtorEq, Nat.reduceAdd, Nat.reduceMul, Nat.reduceSub, Nat.reduceLT, Nat.reduceLeDiff, Nat.reduceEqDiff, Nat.reduceBEq, Nat.reduceBNe, Nat.reduceGT, Nat.reduceDiv, Nat.reduceMod, Int.reduceAdd, Int.reduceSub, Int.reduceNeg, Int.reduceLT, Int.reduceLE, Int.reduceEq, Int.reduceToNat, fA, q2, hl, d1, d2, e0]
        refine hB _ ⟨n + 1, by omega⟩ [] (by simp only; omega) rfl ?_
        rw [r1, r2]
        simp (maxSteps := 2000000) only [enA, ↓enP, Nat.reduceAdd, Nat.reduceMul, Nat.reduceSub, Nat.reduceLT, Nat.reduceLeDiff, Nat.reduceEqDiff, Nat.reduceBEq, ↓reduceIte, reduceCtorEq, fA]
        try exact ⟨rfl, rfl⟩
  · have q1 : (((n + 1 : Nat) : Int) ≤ 500) = False := eq_false (by omega)
    have : n = 500 := by omega
    subst this
    simp (maxSteps := 2000000) only [vcA, ↓vcP, ↓reduceIte, reduceCtorEq, Nat.reduceAdd, Nat.reduceMul, Nat.reduceSub, Nat.reduceLT, Nat.reduceLeDiff, Nat.reduceEqDiff, Nat.reduceBEq, Nat.reduceBNe, Nat.reduceGT, Nat.reduceDiv, Nat.reduceMod, Int.reduceAdd, Int.reduceSub, Int.reduceNeg, Int.reduceLT, Int.reduceLE, Int.reduceEq, Int.reduceToNat, fA, q1]
    refine hR _ (fin_of0 ?_)
    simp (maxSteps := 2000000) only [enA, ↓enP, Nat.reduceAdd, Nat.reduceMul, Nat.reduceSub, Nat.reduceLT, Nat.reduceLeDiff, Nat.reduceEqDiff, Nat.reduceBEq, ↓reduceIte, reduceCtorEq, fA]
end Go.Proofs.Ytfnohamcmidgbaa.Ab.T07
namespace Go.Proofs.Ytfnohamcmidgbaa.Ab.T07
open Go Go.RowKit
set_option linter.unusedVariables false
set_option linter.unusedSimpArgs false
set_option maxRecDepth 100000
/-- By halves one finds the least, if what is asked holds for all above. -/
theorem leastL_spec {p : Int → Bool} {most : Int} (hm : ∀ n m : Int, 0 ≤ n → n ≤ m → m ≤ most → p n = true → p m = true) : ∀ (k : Nat) (f m c : Int), 0 ≤ f → f ≤ m → m ≤ most + 1 → (m - f).toNat ≤ k → (∀ n, 0 ≤ n → n < f → p n = false) → (m ≤ most → p m = true) →
    (∀ n, 0 ≤ n → n < (leastL p k f m c).1 → p n = false) ∧ ((leastL p k f m c).1 ≤ most → p (leastL p k f m c).1 = true)
  | 0, f, m, c, h0, h1, h2, h3, h4, h5 => by
    have : f = m := by omega
    subst this
    exact ⟨h4, h5⟩
  | k + 1, f, m, c, h0, h1, h2, h3, h4, h5 => by
    rw [leastL]
    by_cases hc : f < m
    · rw [if_pos hc]
      cases hp : p ((f + m) / 2) with
      | true =>
        rw [if_pos rfl]
        exact leastL_spec hm k f ((f + m) / 2) _ h0 (by omega) (by omega) (by omega) h4 (fun _ => hp)
      | false =>
        rw [if_neg (by decide)]
        refine leastL_spec hm k ((f + m) / 2 + 1) m _ (by omega) (by omega) h2 (by omega) (fun n hn0 hn => ?_) h5
        cases hpn : p n with
        | false => rfl
        | true => rw [hm n ((f + m) / 2) hn0 (by omega) (by omega) hpn] at hp; cases hp
    · rw [if_neg hc]
      have : f = m := by omega
      subst this
      exact ⟨h4, h5⟩
theorem leastP_spec {p : Int → Bool} {most : Int} (c : Int) (h : 0 ≤ most) (hm : ∀ n m : Int, 0 ≤ n → n ≤ m → m ≤ most → p n = true → p m = true) : (∀ n, 0 ≤ n → n < (leastP p most c).1 → p n = false) ∧ ((leastP p most c).1 ≤ most → p (leastP p most c).1 = true) :=
  leastL_spec hm _ 0 (most + 1) c (Int.le_refl _) (by omega) (Int.le_refl _) (by omega) (fun n h0 h1 => by omega) (fun h => by omega)
def giveX (h : Hs) (fans : Int) (i : Nat) : Int := if giveI h fans i > 100000 then -1 else giveI h fans i
set_option maxHeartbeats 4000000 in
theorem rgive_spec (h : Hs) (i : Nat) (fans : Int) (hh : OkH h) (hi : i < h.tk.length) (hf : 0 ≤ fans ∧ fans ≤ 500) : SpecF Try.prog 33 [.agg [.v (.int .i64 h.sc), .sl 2 (h.tk.map spR), .sl 1 (h.lo.map iR)], .v (.int .i64 i), .v (.int .i64 fans)] (.v (.int .i64 (giveX h fans i))) [] := by
  have hlen := hh.tk
  have hlo := hh.lo
  have hsc := hh.sc
  have q1 : (i < h.tk.length) = True := eq_true hi
  have q2 : (i < h.lo.length) = True := eq_true (by omega)
  have ht := hh.tks _ (nth_mem (l := h.tk) (i := i) hi)
  have hl := hh.los _ (nth_mem (l := h.lo) (i := i) (by omega))
  have m := mul_bd (a := fans) (b := (nth h.tk i).2) (M := 500) (N := 1000) hf.1 hf.2 (by omega) ht.2.2
  have e1 : IntKind.i64.wrap (fans * (nth h.tk i).2) = fans * (nth h.tk i).2 := wrap_id (by omega) (by omega)
  have gi : giveI h fans i = if fans * (nth h.tk i).2 = 0 then 0 else (leastP (giveP h i (fans * (nth h.tk i).2)) 100000 0).1 + h.sc := rfl
  obtain ⟨need, hN⟩ : ∃ x, x = fans * (nth h.tk i).2 := ⟨_, rfl⟩
  rw [← hN] at m gi
  have e1 : IntKind.i64.wrap (fans * (nth h.tk i).2) = need := by rw [e1, hN]
  refine spec_go (N := 42) (rs := [.tmp 6]) (eq := eqs) rfl rfl fun_33 rfl (by kernel_rfl) (by kernel_rfl) (by simp) (by simp) (by simp) (by simp) fun R hR => ?_
  by_cases c0 : need = 0
  · have q3 : (need == 0) = true := by simpa using c0
    rw [if_pos c0] at gi
    have e : giveX h fans i = 0 := by unfold giveX; rw [gi, if_neg (by omega)]
    simp (maxSteps := 2000000) only [vcA, ↓vcP, ↓reduceIte, reduceCtorEq, Nat.reduceAdd, Nat.reduceMul, Nat.reduceSub, Nat.reduceLT, Nat.reduceLeDiff, Nat.reduceEqDiff, Nat.reduceBEq, Nat.reduceBNe, Nat.reduceGT, Nat.reduceDiv, Nat.reduceMod, Int.reduceAdd, Int.reduceSub, Int.reduceNeg, Int.reduceLT, Int.reduceLE, Int.reduceEq, Int.reduceToNat, fA, q1, spR, e1, q3]
    refine hR _ (fin_of0 ?_)
    rw [e]
    simp (maxSteps := 2000000) only [enA, ↓enP, Nat.reduceAdd, Nat.reduceMul, Nat.reduceSub, Nat.reduceLT, Nat.reduceLeDiff, Nat.reduceEqDiff, Nat.reduceBEq, ↓reduceIte, reduceCtorEq, fA]
  have q3 : (need == 0) = false := by simpa using c0
  rw [if_neg c0] at gi
  have hlb := leastP_bd (giveP h i need) (most := 100000) 0 (by omega)
  have hls := leastP_spec (p := giveP h i need) (most := 100000) 0 (by omega) fun n m' g1 g2 g3 g4 => by
    unfold giveP at g4 ⊢
    have := net_mono (L := nth h.lo i) hl g2
    simp only [decide_eq_true_eq] at g4 ⊢
    omega
  generalize (leastP (giveP h i need) 100000 0).1 = r at gi hlb hls
  have gx : giveX h fans i = if r + h.sc > 100000 then -1 else r + h.sc := by unfold giveX; rw [gi]
  simp (maxSteps := 2000000) only [vcA, ↓vcP, ↓reduceIte, reduceCtorEq, Nat.reduceAdd, Nat.reduceMul, Nat.reduceSub, Nat.reduceLT, Nat.reduceLeDiff, Nat.reduceEqDiff, Nat.reduceBEq, Nat.reduceBNe, Nat.reduceGT, Nat.reduceDiv, Nat.reduceMod, Int.reduceAdd, Int.reduceSub, Int.reduceNeg, Int.reduceLT, Int.reduceLE, Int.reduceEq, Int.reduceToNat, fA, q1, spR, e1, q3]
  refine goC_loop (α := {n : Nat // (n : Int) ≤ r ∧ (n : Int) ≤ 100001 - h.sc}) (fun x => ⟨[(1, .v (.int .i64 i)), (3, .ptr 8 0), (7, .v (.int .i64 need)), (8, .v (.int .i64 x.1))], [(8, .box 25 [.v (.int .i64 h.sc), .sl 2 (h.tk.map spR), .sl 1 (h.lo.map iR)])]⟩) (fun x => 100002 - x.1) ⟨0, by omega, by omega⟩ [] ?_ ?_
  · simp (maxSteps := 2000000) only [enA, ↓enP, Nat.reduceAdd, Nat.reduceMul, Nat.reduceSub, Nat.reduceLT, Nat.reduceLeDiff, Nat.reduceEqDiff, Nat.reduceBEq, ↓reduceIte, reduceCtorEq, fA]
    rfl
  intro x B hB
  obtain ⟨n, hn, hn2⟩ := x
  have w1 : IntKind.i64.wrap ((n : Int) + h.sc) = (n : Int) + h.sc := wrap_id (by omega) (by omega)
  by_cases c1 : (n : Int) + h.sc ≤ 100000
  · have q4 : ((n : Int) + h.sc ≤ 100000) = True := eq_true c1
    have mm := mul_bd (a := (n : Int)) (b := nth h.lo i) (M := 100000) (N := 1000) (by omega) (by omega) hl.1 hl.2
    have w2 : IntKind.i64.wrap ((n : Int) * nth h.lo i) = (n : Int) * nth h.lo i := wrap_id (by omega) (by omega)
    have w3 : ((n : Int) * nth h.lo i).tdiv 1000 = (n : Int) * nth h.lo i / 1000 := quo_of mm.1
    have w4 : IntKind.i64.wrap ((n : Int) * nth h.lo i / 1000) = (n : Int) * nth h.lo i / 1000 := wrap_id (by omega) (by omega)
    have w5 : IntKind.i64.wrap ((n : Int) - (n : Int) * nth h.lo i / 1000) = (n : Int) - (n : Int) * nth h.lo i / 1000 := wrap_id (by omega) (by omega)
    have e0 : IntKind.i64.wrap ((n : Int) + 1) = ((n + 1 : Nat) : Int) := wrap_id (by omega) (by omega)
    have hp : giveP h i need n = decide ((n : Int) - (n : Int) * nth h.lo i / 1000 ≥ need) := rfl
    by_cases c2 : (n : Int) - (n : Int) * nth h.lo i / 1000 ≥ need
    · have q5 : ((n : Int) - (n : Int) * nth h.lo i / 1000 ≥ need) = True := eq_true c2
      have er : r = n := by
        rcases Int.lt_or_le (n : Int) r with g | g
        · have := hls.1 n (by omega) g
          rw [hp, decide_eq_true c2] at this
          cases this
        · omega
      have e : giveX h fans i = (n : Int) + h.sc := by rw [gx, er, if_neg (by omega)]
      simp (maxSteps := 2000000) only [vcA, ↓vcP, ↓reduceIte, reduceCtorEq, Nat.reduceAdd, Nat.reduceMul, Nat.reduceSub, Nat.reduceLT, Nat.reduceLeDiff, Nat.reduceEqDiff, Nat.reduceBEq, Nat.reduceBNe, Nat.reduceGT, Nat.reduceDiv, Nat.reduceMod, Int.reduceAdd, Int.reduceSub, Int.reduceNeg, Int.reduceLT, Int.reduceLE, Int.reduceEq, Int.reduceToNat, fA, q2, iR, w1, w2, w3, w4, w5, q4, q5]
      refine hR _ (fin_of0 ?_)
      rw [e]
      simp (maxSteps := 2000000) only [enA, ↓enP, Nat.reduceAdd, Nat.reduceMul, Nat.reduceSub, Nat.reduceLT, Nat.reduceLeDiff, Nat.reduceEqDiff, Nat.reduceBEq, ↓reduceIte, reduceCtorEq, fA]
    · have q5 : ((n : Int) - (n : Int) * nth h.lo i / 1000 ≥ need) = False := eq_false c2
      have hlt : (n : Int) < r := by
        rcases Int.lt_or_le (n : Int) r with g | g
        · exact g
        · have er : r = n := by omega
          have := hls.2 (by omega)
          rw [er, hp, decide_eq_false c2] at this
          cases this
      simp (maxSteps := 2000000) only [vcA, ↓vcP, ↓reduceIte, reduceCtorEq, Nat.reduceAdd, Nat.reduceMul, Nat.reduceSub, Nat.reduceLT, Nat.reduceLeDiff, Nat.reduceEqDiff, Nat.reduceBEq, Nat.reduceBNe, Nat.reduceGT, Nat.reduceDiv, Nat.reduceMod, Int.reduceAdd, Int.reduceSub, Int.reduceNeg, Int.reduceLT, Int.reduceLE, Int.reduceEq, Int.reduceToNat, fA, q2, iR, w1, w2, w3, w4, w5, q4, q5, e0]
      refine hB _ ⟨n + 1, by omega, by omega⟩ [] (by simp only; omega) rfl ?_
      simp (maxSteps := 2000000) only [enA, ↓enP, Nat.reduceAdd, Nat.reduceMul, Nat.reduceSub, Nat.reduceLT, Nat.reduceLeDiff, Nat.reduceEqDiff, Nat.reduceBEq, ↓reduceIte, reduceCtorEq, fA]
  · have q4 : ((n : Int) + h.sc ≤ 100000) = False := eq_false c1
    have e : giveX h fans i = -1 := by rw [gx, if_pos (by omega)]
    simp (maxSteps := 2000000) only [vcA, ↓vcP, ↓reduceIte, reduceCtorEq, Nat.reduceAdd, Nat.reduceMul, Nat.reduceSub, Nat.reduceLT, Nat.reduceLeDiff, Nat.reduceEqDiff, Nat.reduceBEq, Nat.reduceBNe, Nat.reduceGT, Nat.reduceDiv, Nat.reduceMod, Int.reduceAdd, Int.reduceSub, Int.reduceNeg, Int.reduceLT, Int.reduceLE, Int.reduceEq, Int.reduceToNat, fA, w1, q4]
    refine hR _ (fin_of0 ?_)
    rw [e]
    simp (maxSteps := 2000000) only [enA, ↓enP, Nat.reduceAdd, Nat.reduceMul, Nat.reduceSub, Nat.reduceLT, Nat.reduceLeDiff, Nat.reduceEqDiff, Nat.reduceBEq, ↓reduceIte, reduceCtorEq, fA]
/-! ### the best there can be -/
theorem best_spec (h : Hs) (b : List En) (w s : Int) (hb : OkR h b) (hk : kinds b) (hs : 0 ≤ s ∧ s < h.tk.length) : SpecF Try.prog 77 [.agg [.v (.int .i64 h.sc), .sl 2 (h.tk.map spR), .sl 1 (h.lo.map iR)], .sl 4 (b.map enR), .v (.int .i64 w), .v (.int .i64 s)] (.v (.int .i64 (high (acc h b w s nof)))) [] := by
  have hsum := sum_spec h b w s hb hk
  obtain ⟨hbr, e1, e2, e3, d1, d2⟩ := acc_br hb (w := w) hs
  have hA : accN h b w s nof b.length = acc h b w s nof := rfl
  have hlen := hb.hs.tk
  have s1 : (0 ≤ s) = True := eq_true hs.1
  have s3 : (s < (h.tk.length : Int)) = True := eq_true (by omega)
  have s4 : s.toNat < h.tk.length := by omega
  unfold sumA at hsum
  rw [hA] at hsum
  generalize acc h b w s nof = a at hsum hbr e1 e2 e3
  generalize fcN b w b.length = fc at hsum e1 e2 d1 d2
  obtain ⟨b1, b2, b3, b4⟩ := hbr
  have w1 : IntKind.i64.wrap (fc * (nth h.tk s.toNat).1) = a.f1 := by rw [← e1]; exact wrap_id (by omega) (by omega)
  have w3 : IntKind.i64.wrap (a.o2 - a.b1) = a.o2 - a.b1 := wrap_id (by omega) (by omega)
  have w4 : IntKind.i64.wrap (a.o2 - a.b1 - a.f1) = a.o2 - a.b1 - a.f1 := wrap_id (by omega) (by omega)
  refine spec_go (N := 33) (rs := [.tmp 8]) (eq := eqs) rfl rfl fun_77 rfl (by kernel_rfl) (by kernel_rfl) (by simp) (by simp) (by simp) (by simp) fun R hR => ?_
  simp (maxSteps := 2000000) only [vcA, ↓vcP, ↓reduceIte, reduceCtorEq, Nat.reduceAdd, Nat.reduceMul, Nat.reduceSub, Nat.reduceLT, Nat.reduceLeDiff, Nat.reduceEqDiff, Nat.reduceBEq, Nat.reduceBNe, Nat.reduceGT, Nat.reduceDiv, Nat.reduceMod, Int.reduceAdd, Int.reduceSub, Int.reduceNeg, Int.reduceLT, Int.reduceLE, Int.reduceEq, Int.reduceToNat, fA]
  refine onF_data hsum ?_ ?_
  · simp (maxSteps := 2000000) only [okA, ↓okP, Nat.reduceAdd, Nat.reduceMul, Nat.reduceSub, Nat.reduceLT, Nat.reduceLeDiff, Nat.reduceEqDiff, Nat.reduceBEq, ↓reduceIte, reduceCtorEq]
  simp (maxSteps := 2000000) only [vcA, ↓vcP, ↓reduceIte, reduceCtorEq, Nat.reduceAdd, Nat.reduceMul, Nat.reduceSub, Nat.reduceLT, Nat.reduceLeDiff, Nat.reduceEqDiff, Nat.reduceBEq, Nat.reduceBNe, Nat.reduceGT, Nat.reduceDiv, Nat.reduceMod, Int.reduceAdd, Int.reduceSub, Int.reduceNeg, Int.reduceLT, Int.reduceLE, Int.reduceEq, Int.reduceToNat, fA, s1, s3, s4, spR, w1, w3, w4]
  repeat (first | refine ⟨by kernel_rfl, ?_⟩ | refine ⟨⟨by kernel_rfl, by kernel_rfl⟩, ?_⟩ | refine ⟨⟨by kernel_rfl, by kernel_rfl, by kernel_rfl⟩, ?_⟩ | refine ⟨⟨by kernel_rfl, by kernel_rfl, by kernel_rfl, by kernel_rfl⟩, ?_⟩ | refine ⟨⟨by kernel_rfl, by kernel_rfl, by kernel_rfl, by kernel_rfl, by kernel_rfl⟩, ?_⟩ | refine ⟨⟨by kernel_rfl, by kernel_rfl, by kernel_rfl, by kernel_rfl, by kernel_rfl, by kernel_rfl⟩, ?_⟩ | refine ⟨⟨by kernel_rfl, by kernel_rfl, by kernel_rfl, by kernel_rfl, by kernel_rfl, by kernel_rfl, by kernel_rfl⟩, ?_⟩ | refine ⟨⟨by kernel_rfl, by kernel_rfl, by kernel_rfl, by kernel_rfl, by kernel_rfl, by kernel_rfl, by kernel_rfl, by kernel_rfl⟩, ?_⟩ | refine ⟨⟨by kernel_rfl, by kernel_rfl, by kernel_rfl, by kernel_rfl, by kernel_rfl, by kernel_rfl, by kernel_rfl, by kernel_rfl, by kernel_rfl⟩, ?_⟩ | refine ⟨⟨by kernel_rfl, by kernel_rfl, by kernel_rfl, by kernel_rfl, by kernel_rfl, by kernel_rfl, by kernel_rfl, by kernel_rfl, by kernel_rfl, by kernel_rfl⟩, ?_⟩ | refine ⟨⟨by kernel_rfl, by kernel_rfl, by kernel_rfl, by kernel_rfl, by kernel_rfl, by kernel_rfl, by kernel_rfl, by kernel_rfl, by kernel_rfl, by kernel_rfl, by kernel_rfl⟩, ?_⟩ | refine ⟨⟨by kernel_rfl, by kernel_rfl, by kernel_rfl, by kernel_rfl, by kernel_rfl, by kernel_rfl, by kernel_rfl, by kernel_rfl, by kernel_rfl, by kernel_rfl, by kernel_rfl, by kernel_rfl⟩, ?_⟩ | refine ⟨⟨by kernel_rfl, by kernel_rfl, by kernel_rfl, by kernel_rfl, by kernel_rfl, by kernel_rfl, by kernel_rfl, by kernel_rfl, by kernel_rfl, by kernel_rfl, by kernel_rfl, by kernel_rfl, by kernel_rfl⟩, ?_⟩)
  refine hR _ (fin_of0 ?_)
  simp (maxSteps := 2000000) only [enA, ↓enP, Nat.reduceAdd, Nat.reduceMul, Nat.reduceSub, Nat.reduceLT, Nat.reduceLeDiff, Nat.reduceEqDiff, Nat.reduceBEq, ↓reduceIte, reduceCtorEq, fA]
  try rfl
theorem fine_spec (h : Hs) (b : List En) (hb : OkR h b) (hk : kinds b) : SpecF Try.prog 35 [.agg [.v (.int .i64 h.sc), .sl 2 (h.tk.map spR), .sl 1 (h.lo.map iR)], .sl 4 (b.map enR)] (.v (.bool (trueB h b nof))) [] := by
  have hlen := hb.hs.tk
  refine spec_go (N := 24) (rs := [.tmp 4]) (eq := eqs) rfl rfl fun_35 rfl (by kernel_rfl) (by kernel_rfl) (by simp) (by simp) (by simp) (by simp) fun R hR => ?_
  simp (maxSteps := 2000000) only [vcA, ↓vcP, ↓reduceIte, reduceCtorEq, Nat.reduceAdd, Nat.reduceMul, Nat.reduceSub, Nat.reduceLT, Nat.reduceLeDiff, Nat.reduceEqDiff, Nat.reduceBEq, Nat.reduceBNe, Nat.reduceGT, Nat.reduceDiv, Nat.reduceMod, Int.reduceAdd, Int.reduceSub, Int.reduceNeg, Int.reduceLT, Int.reduceLE, Int.reduceEq, Int.reduceToNat, fA]
  refine goC_loop (α := {w : Nat // w ≤ 6 ∧ ∀ j, j < w → okW h b nof j = true}) (fun y => ⟨[(1, .sl 4 (b.map enR)), (2, .ptr 8 0), (5, .v (.int .i64 y.1))], [(8, .box 25 [.v (.int .i64 h.sc), .sl 2 (h.tk.map spR), .sl 1 (h.lo.map iR)])]⟩) (fun y => 6 - y.1) ⟨0, by omega, by omega⟩ [] ?_ ?_
  · simp (maxSteps := 2000000) only [enA, ↓enP, Nat.reduceAdd, Nat.reduceMul, Nat.reduceSub, Nat.reduceLT, Nat.reduceLeDiff, Nat.reduceEqDiff, Nat.reduceBEq, ↓reduceIte, reduceCtorEq, fA]
    rfl
  intro y B hB
  obtain ⟨w, hw, hx⟩ := y
  by_cases c1 : w < 6
  · have q1 : ((w : Int) < 6) = True := eq_true (by omega)
    have e0 : IntKind.i64.wrap ((w : Int) + 1) = ((w + 1 : Nat) : Int) := wrap_id (by omega) (by omega)
    simp (maxSteps := 2000000) only [vcA, ↓vcP, ↓reduceIte, reduceCtorEq, Nat.reduceAdd, Nat.reduceMul, Nat.reduceSub, Nat.reduceLT, Nat.reduceLeDiff, Nat.reduceEqDiff, Nat.reduceBEq, Nat.reduceBNe, Nat.reduceGT, Nat.reduceDiv, Nat.reduceMod, Int.reduceAdd, Int.reduceSub, Int.reduceNeg, Int.reduceLT, Int.reduceLE, Int.reduceEq, Int.reduceToNat, fA, q1]
    refine goC_loop (α := {s : Nat // s ≤ h.tk.length ∧ ∀ j : Nat, j < s → 0 ≤ high (acc h b w j nof)}) (fun y => ⟨[(1, .sl 4 (b.map enR)), (2, .ptr 8 0), (5, .v (.int .i64 w)), (6, .v (.int .i64 y.1))], [(8, .box 25 [.v (.int .i64 h.sc), .sl 2 (h.tk.map spR), .sl 1 (h.lo.map iR)])]⟩) (fun y => h.tk.length - y.1) ⟨0, by omega, by omega⟩ [] ?_ ?_
    · simp (maxSteps := 2000000) only [enA, ↓enP, Nat.reduceAdd, Nat.reduceMul, Nat.reduceSub, Nat.reduceLT, Nat.reduceLeDiff, Nat.reduceEqDiff, Nat.reduceBEq, ↓reduceIte, reduceCtorEq, fA]
      rfl
    intro y B2 hB2
    obtain ⟨s, hs, hy⟩ := y
    by_cases c2 : s < h.tk.length
    · have q2 : (s < h.tk.length) = True := eq_true c2
      have e3 : IntKind.i64.wrap ((s : Int) + 1) = ((s + 1 : Nat) : Int) := wrap_id (by omega) (by omega)
      simp (maxSteps := 2000000) only [vcA, ↓vcP, ↓reduceIte, reduceCtorEq, Nat.reduceAdd, Nat.reduceMul, Nat.reduceSub, Nat.reduceLT, Nat.reduceLeDiff, Nat.reduceEqDiff, Nat.reduceBEq, Nat.reduceBNe, Nat.reduceGT, Nat.reduceDiv, Nat.reduceMod, Int.reduceAdd, Int.reduceSub, Int.reduceNeg, Int.reduceLT, Int.reduceLE, Int.reduceEq, Int.reduceToNat, fA, q2]
      refine onF_data (best_spec h b w s hb hk (by omega)) ?_ ?_
      · simp (maxSteps := 2000000) only [okA, ↓okP, Nat.reduceAdd, Nat.reduceMul, Nat.reduceSub, Nat.reduceLT, Nat.reduceLeDiff, Nat.reduceEqDiff, Nat.reduceBEq, ↓reduceIte, reduceCtorEq]
      by_cases c3 : high (acc h b w s nof) < 0
      · have q3 : (high (acc h b w s nof) < 0) = True := eq_true c3
        have e : trueB h b nof = false := by
          cases hT : trueB h b nof with
          | false => rfl
          | true => have := okW_iff.1 (trueB_iff.1 hT w c1) s c2; omega
        simp (maxSteps := 2000000) only [vcA, ↓vcP, ↓reduceIte, reduceCtorEq, Nat.reduceAdd, Nat.reduceMul, Nat.reduceSub, Nat.reduceLT, Nat.reduceLeDiff, Nat.reduceEqDiff, Nat.reduceBEq, Nat.reduceBNe, Nat.reduceGT, Nat.reduceDiv, Nat.reduceMod, Int.reduceAdd, Int.reduceSub, Int.reduceNeg, Int.reduceLT, Int.reduceLE, Int.reduceEq, Int.reduceToNat, fA, q3]
        refine hR _ (fin_of0 ?_)
        rw [e]
        simp (maxSteps := 2000000) only [enA, ↓enP, Nat.reduceAdd, Nat.reduceMul, Nat.reduceSub, Nat.reduceLT, Nat.reduceLeDiff, Nat.reduceEqDiff, Nat.reduceBEq, ↓reduceIte, reduceCtorEq, fA]
      · have q3 : (high (acc h b w s nof) < 0) = False := eq_false c3
        simp (maxSteps := 2000000) only [vcA, ↓vcP, ↓reduceIte, reduceCtorEq, Nat.reduceAdd, Nat.reduceMul, Nat.reduceSub, Nat.reduceLT, Nat.reduceLeDiff, Nat.reduceEqDiff, Nat.reduceBEq, Nat.reduceBNe, Nat.reduceGT, Nat.reduceDiv, Nat.reduceMod, Int.reduceAdd, Int.reduceSub, Int.reduceNeg, Int.reduceLT, Int.reduceLE, Int.reduceEq, Int.reduceToNat, fA, q3, e3]
        refine hB2 _ ⟨s + 1, by omega, fun j hj => ?_⟩ [] (by simp only; omega) rfl ?_
        · by_cases e : j = s
          · rw [e]; omega
          · exact hy j (by omega)
        · simp (maxSteps := 2000000) only [enA, ↓enP, Nat.reduceAdd, Nat.reduceMul, Nat.reduceSub, Nat.reduceLT, Nat.reduceLeDiff, Nat.reduceEqDiff, Nat.reduceBEq, ↓reduceIte, reduceCtorEq, fA]
    · have q2 : (s < h.tk.length) = False := eq_false c2
      simp (maxSteps := 2000000) only [vcA, ↓vcP, ↓reduceIte, reduceCtorEq, Nat.reduceAdd, Nat.reduceMul, Nat.reduceSub, Nat.reduceLT, Nat.reduceLeDiff, Nat.reduceEqDiff, Nat.reduceBEq, Nat.reduceBNe, Nat.reduceGT, Nat.reduceDiv, Nat.reduceMod, Int.reduceAdd, Int.reduceSub, Int.reduceNeg, Int.reduceLT, Int.reduceLE, Int.reduceEq, Int.reduceToNat, fA, q2, e0]
      refine hB _ ⟨w + 1, by omega, fun j hj => ?_⟩ [] (by simp only; omega) rfl ?_
      · by_cases e : j = w
        · rw [e]; exact okW_iff.2 fun n hn => hy n (by omega)
        · exact hx j (by omega)
      · simp (maxSteps := 2000000) only [enA, ↓enP, Nat.reduceAdd, Nat.reduceMul, Nat.reduceSub, Nat.reduceLT, Nat.reduceLeDiff, Nat.reduceEqDiff, Nat.reduceBEq, ↓reduceIte, reduceCtorEq, fA]
  · have q1 : ((w : Int) < 6) = False := eq_false (by omega)
    have e : trueB h b nof = true := trueB_iff.2 fun j hj => hx j (by omega)
    simp (maxSteps := 2000000) only [vcA, ↓vcP, ↓reduceIte, reduceCtorEq, Nat.reduceAdd, Nat.reduceMul, Nat.reduceSub, Nat.reduceLT, Nat.reduceLeDiff, Nat.reduceEqDiff, Nat.reduceBEq, Nat.reduceBNe, Nat.reduceGT, Nat.reduceDiv, Nat.reduceMod, Int.reduceAdd, Int.reduceSub, Int.reduceNeg, Int.reduceLT, Int.reduceLE, Int.reduceEq, Int.reduceToNat, fA, q1]
    refine hR _ (fin_of0 ?_)
    rw [e]
    simp (maxSteps := 2000000) only [enA, ↓enP, Nat.reduceAdd, Nat.reduceMul, Nat.reduceSub, Nat.reduceLT, Nat.reduceLeDiff, Nat.reduceEqDiff, Nat.reduceBEq, ↓reduceIte, reduceCtorEq, fA]
def movedX (h : Hs) (b : List En) (s : Int) : Int := if (mvN h b s 6).2 < 0 then -1 else (mvN h b s 6).1
set_option maxHeartbeats 4000000 in
theorem rmoved_spec (h : Hs) (b : List En) (s : Int) (hb : Ok h b) (hs : 0 ≤ s ∧ s < h.tk.length) : SpecF Try.prog 42 [.agg [.v (.int .i64 h.sc), .sl 2 (h.tk.map spR), .sl 1 (h.lo.map iR)], .sl 4 (b.map enR), .v (.int .i64 s)] (.v (.int .i64 (movedX h b s))) [] := by
  refine spec_go (N := 32) (rs := [.tmp 6]) (eq := eqs) rfl rfl fun_42 rfl (by kernel_rfl) (by kernel_rfl) (by simp) (by simp) (by simp) (by simp) fun R hR => ?_
  simp (maxSteps := 2000000) only [vcA, ↓vcP, ↓reduceIte, reduceCtorEq, Nat.reduceAdd, Nat.reduceMul, Nat.reduceSub, Nat.reduceLT, Nat.reduceLeDiff, Nat.reduceEqDiff, Nat.reduceBEq, Nat.reduceBNe, Nat.reduceGT, Nat.reduceDiv, Nat.reduceMod, Int.reduceAdd, Int.reduceSub, Int.reduceNeg, Int.reduceLT, Int.reduceLE, Int.reduceEq, Int.reduceToNat, fA]
  refine goC_loop (α := {w : Nat // w ≤ 6}) (fun x => ⟨[(1, .sl 4 (b.map enR)), (2, .v (.int .i64 s)), (3, .ptr 8 0), (7, .v (.int .i64 ((mvN h b s x.1).2 + (mvN h b s x.1).1))), (8, .v (.int .i64 (mvN h b s x.1).1)), (9, .v (.int .i64 x.1))], [(8, .box 25 [.v (.int .i64 h.sc), .sl 2 (h.tk.map spR), .sl 1 (h.lo.map iR)])]⟩) (fun x => 6 - x.1) ⟨0, by omega⟩ [] ?_ ?_
  · simp (maxSteps := 2000000) only [enA, ↓enP, Nat.reduceAdd, Nat.reduceMul, Nat.reduceSub, Nat.reduceLT, Nat.reduceLeDiff, Nat.reduceEqDiff, Nat.reduceBEq, ↓reduceIte, reduceCtorEq, fA]
    exact ⟨rfl, rfl, rfl⟩
  intro x B hB
  obtain ⟨w, hw6⟩ := x
  have bd := mvN_bd hb hs w
  by_cases c1 : w < 6
  · have q1 : ((w : Int) < 6) = True := eq_true (by omega)
    have e0 : IntKind.i64.wrap ((w : Int) + 1) = ((w + 1 : Nat) : Int) := wrap_id (by omega) (by omega)
    have t1 : mvN h b s (w + 1) = ((mvN h b s w).1 - min 0 (high (acc h b w s nof)), (mvN h b s w).2 + high (acc h b w s nof)) := rfl
    have hbe := best_spec h b w s hb.r hb.kinds hs
    have hbd := high_bd (acc_bd hb (w := w) hs nof)
    generalize mvN h b s w = X at bd t1 ⊢
    generalize high (acc h b w s nof) = g at t1 hbe hbd
    simp (maxSteps := 2000000) only [vcA, ↓vcP, ↓reduceIte, reduceCtorEq, Nat.reduceAdd, Nat.reduceMul, Nat.reduceSub, Nat.reduceLT, Nat.reduceLeDiff, Nat.reduceEqDiff, Nat.reduceBEq, Nat.reduceBNe, Nat.reduceGT, Nat.reduceDiv, Nat.reduceMod, Int.reduceAdd, Int.reduceSub, Int.reduceNeg, Int.reduceLT, Int.reduceLE, Int.reduceEq, Int.reduceToNat, fA, q1]
    refine onF_data hbe ?_ ?_
    · simp (maxSteps := 2000000) only [okA, ↓okP, Nat.reduceAdd, Nat.reduceMul, Nat.reduceSub, Nat.reduceLT, Nat.reduceLeDiff, Nat.reduceEqDiff, Nat.reduceBEq, ↓reduceIte, reduceCtorEq]
    by_cases c2 : g < 0
    · have q2 : (g < 0) = True := eq_true c2
      have w1 : IntKind.i64.wrap (X.1 - g) = X.1 - g := wrap_id (by omega) (by omega)
      simp (maxSteps := 2000000) only [vcA, ↓vcP, ↓reduceIte, reduceCtorEq, Nat.reduceAdd, Nat.reduceMul, Nat.reduceSub, Nat.reduceLT, Nat.reduceLeDiff, Nat.reduceEqDiff, Nat.reduceBEq, Nat.reduceBNe, Nat.reduceGT, Nat.reduceDiv, Nat.reduceMod, Int.reduceAdd, Int.reduceSub, Int.reduceNeg, Int.reduceLT, Int.reduceLE, Int.reduceEq, Int.reduceToNat, fA, q2, w1, e0]
      refine hB _ ⟨w + 1, by omega⟩ [] (by simp only; omega) rfl ?_
      rw [t1]
      simp (maxSteps := 2000000) only [enA, ↓enP, Nat.reduceAdd, Nat.reduceMul, Nat.reduceSub, Nat.reduceLT, Nat.reduceLeDiff, Nat.reduceEqDiff, Nat.reduceBEq, ↓reduceIte, reduceCtorEq, fA]
      omega
    · have q2 : (g < 0) = False := eq_false c2
      have w1 : IntKind.i64.wrap (X.2 + X.1 + g) = X.2 + X.1 + g := wrap_id (by omega) (by omega)
      simp (maxSteps := 2000000) only [vcA, ↓vcP, ↓reduceIte, reduceCtorEq, Nat.reduceAdd, Nat.reduceMul, Nat.reduceSub, Nat.reduceLT, Nat.reduceLeDiff, Nat.reduceEqDiff, Nat.reduceBEq, Nat.reduceBNe, Nat.reduceGT, Nat.reduceDiv, Nat.reduceMod, Int.reduceAdd, Int.reduceSub, Int.reduceNeg, Int.reduceLT, Int.reduceLE, Int.reduceEq, Int.reduceToNat, fA, q2, w1, e0]
      refine hB _ ⟨w + 1, by omega⟩ [] (by simp only; omega) rfl ?_
      rw [t1]
      simp (maxSteps := 2000000) only [enA, ↓enP, Nat.reduceAdd, Nat.reduceMul, Nat.reduceSub, Nat.reduceLT, Nat.reduceLeDiff, Nat.reduceEqDiff, Nat.reduceBEq, ↓reduceIte, reduceCtorEq, fA]
      omega
  · have q1 : ((w : Int) < 6) = False := eq_false (by omega)
    have : w = 6 := by omega
    subst this
    by_cases c2 : (mvN h b s 6).2 + (mvN h b s 6).1 < (mvN h b s 6).1
    · have q2 : ((mvN h b s 6).2 + (mvN h b s 6).1 < (mvN h b s 6).1) = True := eq_true c2
      have e : movedX h b s = -1 := by unfold movedX; rw [if_pos (by omega)]
      simp (maxSteps := 2000000) only [vcA, ↓vcP, ↓reduceIte, reduceCtorEq, Nat.reduceAdd, Nat.reduceMul, Nat.reduceSub, Nat.reduceLT, Nat.reduceLeDiff, Nat.reduceEqDiff, Nat.reduceBEq, Nat.reduceBNe, Nat.reduceGT, Nat.reduceDiv, Nat.reduceMod, Int.reduceAdd, Int.reduceSub, Int.reduceNeg, Int.reduceLT, Int.reduceLE, Int.reduceEq, Int.reduceToNat, fA, q1, q2]
      refine hR _ (fin_of0 ?_)
      rw [e]
      simp (maxSteps := 2000000) only [enA, ↓enP, Nat.reduceAdd, Nat.reduceMul, Nat.reduceSub, Nat.reduceLT, Nat.reduceLeDiff, Nat.reduceEqDiff, Nat.reduceBEq, ↓reduceIte, reduceCtorEq, fA]
    · have q2 : ((mvN h b s 6).2 + (mvN h b s 6).1 < (mvN h b s 6).1) = False := eq_false c2
      have e : movedX h b s = (mvN h b s 6).1 := by unfold movedX; rw [if_neg (by omega)]
      simp (maxSteps := 2000000) only [vcA, ↓vcP, ↓reduceIte, reduceCtorEq, Nat.reduceAdd, Nat.reduceMul, Nat.reduceSub, Nat.reduceLT, Nat.reduceLeDiff, Nat.reduceEqDiff, Nat.reduceBEq, Nat.reduceBNe, Nat.reduceGT, Nat.reduceDiv, Nat.reduceMod, Int.reduceAdd, Int.reduceSub, Int.reduceNeg, Int.reduceLT, Int.reduceLE, Int.reduceEq, Int.reduceToNat, fA, q1, q2]
      refine hR _ (fin_of0 ?_)
      rw [e]
      simp (maxSteps := 2000000) only [enA, ↓enP, Nat.reduceAdd, Nat.reduceMul, Nat.reduceSub, Nat.reduceLT, Nat.reduceLeDiff, Nat.reduceEqDiff, Nat.reduceBEq, ↓reduceIte, reduceCtorEq, fA]
end Go.Proofs.Ytfnohamcmidgbaa.Ab.T07
