/- The reference: the layout with the most sticks. -/
import Derived.Test.YtafpicjnccffgaaZP0
namespace Go.Proofs.Ytafpicjnccffgaa.Ab.T01
open Go Go.RowKit
set_option linter.unusedSimpArgs false
set_option linter.unusedVariables false
set_option maxRecDepth 100000
def laidR (l : List (Int × Int)) : List DV := [.sl 2 (l.map plcR)]
theorem set_laid (L : List (List (Int × Int))) (i : Nat) (l : List (Int × Int)) (h : i < L.length) : (L.map laidR).set i (put ((L.map laidR).getD i []) 0 [.sl 2 (l.map plcR)]) = (L.set i l).map laidR := by
  rw [nth_map laidR L i h, List.map_set]
  rfl
set_option maxHeartbeats 4000000 in
theorem most2_spec (v : Vw) (s : Sw) (hv : v.Ok) (hs : sawOk s = true) : SpecF Try.prog 46 [.agg [.sl 1 (v.bottom.map iR), .sl 1 (v.top.map iR), .sl 6 (v.spoils.map refR)], .agg [.v (.int .i64 s.long), .v (.int .i64 s.wide), .v (.int .i64 s.kerf), .v (.int .i64 s.across)]] (.sl 2 ((mostI v s).map plcR)) [] := by
  have hs0 := hs
  unfold sawOk at hs
  simp only [Bool.and_eq_true] at hs
  have s1 := betw1 hs.1.1
  have s2 := betw1 hs.1.2
  have s3 := (betw2 hs.2)
  have hle := hv.le
  have el : ((s.long.toNat : Nat) : Int) = s.long := by omega
  obtain ⟨NN, hNN⟩ : ∃ NN, NN = v.bottom.length + stepN s + 1 := ⟨_, rfl⟩
  have hst : ((stepN s : Nat) : Int) = s.long + s.across := by unfold stepN; omega
  have hN : (v.bottom.length : Int) + s.long + s.across + 1 = NN := by omega
  have w1 : IntKind.i64.wrap ((v.bottom.length : Int) + s.long) = v.bottom.length + s.long := wrap_id (by omega) (by omega)
  have w2 : IntKind.i64.wrap ((v.bottom.length : Int) + s.long + s.across) = v.bottom.length + s.long + s.across := wrap_id (by omega) (by omega)
  have w3 : IntKind.i64.wrap ((v.bottom.length : Int) + s.long + s.across + 1) = NN := by rw [hN]; exact wrap_id (by omega) (by omega)
  have w4 : IntKind.i64.wrap ((v.bottom.length : Int) - s.long) = v.bottom.length - s.long := wrap_id (by omega) (by omega)
  have hblk : ∀ x, x + s.long.toNat ≤ v.bottom.length → (blockI v s x).length ≤ 301 := fun x hx => blockI_len hv (by omega) hx
  refine spec_go (N := 101) (rs := [.tmp 4]) (eq := eqs) rfl rfl fun_46 rfl (by kernel_rfl) (by kernel_rfl) (by simp) (by simp) (by simp) (by simp) fun R hR => ?_
  simp (maxSteps := 2000000) only [vcA, ↓vcP, ↓reduceIte, reduceCtorEq, Nat.reduceAdd, Nat.reduceMul, Nat.reduceSub, Nat.reduceLT, Nat.reduceLeDiff, Nat.reduceEqDiff, Nat.reduceBEq, Nat.reduceBNe, Nat.reduceGT, Nat.reduceDiv, Nat.reduceMod, Int.reduceAdd, Int.reduceSub, Int.reduceNeg, Int.reduceLT, Int.reduceLE, Int.reduceEq, Int.reduceToNat, fA, w1, w2, w3, w4]
  refine ⟨⟨by omega, by simp only [maxLen]; omega⟩, fun _ => ?_⟩
  obtain ⟨st, hst2⟩ : ∃ st, st = stepN s := ⟨_, rfl⟩
  obtain ⟨L, hL⟩ : ∃ L, L = s.long.toNat := ⟨_, rfl⟩
  obtain ⟨n, hn⟩ : ∃ n, n = v.bottom.length := ⟨_, rfl⟩
  obtain ⟨f, hf⟩ : ∃ f : Nat → List Int, f = blockI v s := ⟨_, rfl⟩
  refine goC_loop (α := {x : Int // x ≤ n - L ∧ (-1 ≤ x ∨ x = n - L)}) (fun x => ⟨[(2, .ptr 8 0), (3, .ptr 16 0), (5, .v (.int .i64 n)), (6, .ob 128 NN), (7, .v (.int .i64 x.1))], [(8, .box 48 [.sl 1 (v.bottom.map iR), .sl 1 (v.top.map iR), .sl 6 (v.spoils.map refR)]), (16, .box 27 [.v (.int .i64 s.long), .v (.int .i64 s.wide), .v (.int .i64 s.kerf), .v (.int .i64 s.across)]),
    (128, .row 62 1 ((laidL f n L st NN x.1).map laidR) false)]⟩) (fun x => (x.1 + 1).toNat) ⟨n - L, by omega, by omega⟩ [] ?_ ?_
  · simp (maxSteps := 2000000) only [enA, ↓enP, Nat.reduceAdd, Nat.reduceMul, Nat.reduceSub, Nat.reduceLT, Nat.reduceLeDiff, Nat.reduceEqDiff, Nat.reduceBEq, ↓reduceIte, reduceCtorEq, fA]
    rw [laidL_end (by omega), List.map_replicate]
    refine ⟨⟨by omega, by omega⟩, rfl⟩
  intro x B hB
  obtain ⟨x, hx1, hx2⟩ := x
  by_cases hc : 0 ≤ x
  · obtain ⟨X, rfl⟩ : ∃ X : Nat, x = X := ⟨x.toNat, by omega⟩
    have qc : ((X : Int) ≥ 0) = True := eq_true (by omega)
    simp (maxSteps := 2000000) only [vcA, ↓vcP, ↓reduceIte, reduceCtorEq, Nat.reduceAdd, Nat.reduceMul, Nat.reduceSub, Nat.reduceLT, Nat.reduceLeDiff, Nat.reduceEqDiff, Nat.reduceBEq, Nat.reduceBNe, Nat.reduceGT, Nat.reduceDiv, Nat.reduceMod, Int.reduceAdd, Int.reduceSub, Int.reduceNeg, Int.reduceLT, Int.reduceLE, Int.reduceEq, Int.reduceToNat, fA, qc]
    refine onF_data (block3_spec v s X hv hs0 (by omega)) ?_ ?_
    · simp (maxSteps := 2000000) only [okA, ↓okP, Nat.reduceAdd, Nat.reduceMul, Nat.reduceSub, Nat.reduceLT, Nat.reduceLeDiff, Nat.reduceEqDiff, Nat.reduceBEq, ↓reduceIte, reduceCtorEq]
    have hfX : (f X).length ≤ 301 := by rw [hf]; exact hblk X (by omega)
    rw [← hf]
    simp (maxSteps := 2000000) only [vcA, ↓vcP, ↓reduceIte, reduceCtorEq, Nat.reduceAdd, Nat.reduceMul, Nat.reduceSub, Nat.reduceLT, Nat.reduceLeDiff, Nat.reduceEqDiff, Nat.reduceBEq, Nat.reduceBNe, Nat.reduceGT, Nat.reduceDiv, Nat.reduceMod, Int.reduceAdd, Int.reduceSub, Int.reduceNeg, Int.reduceLT, Int.reduceLE, Int.reduceEq, Int.reduceToNat, fA, qc]
    refine goC_loop (α := {j : Nat // j ≤ (f X).length}) (fun j => ⟨[(2, .ptr 8 0), (3, .ptr 16 0), (5, .v (.int .i64 n)), (6, .ob 128 NN), (7, .v (.int .i64 X)), (8, .ob 296 j.1), (9, .sl 1 ((f X).map iR)), (10, .v (.int .i64 j.1))], [(8, .box 48 [.sl 1 (v.bottom.map iR), .sl 1 (v.top.map iR), .sl 6 (v.spoils.map refR)]), (16, .box 27 [.v (.int .i64 s.long), .v (.int .i64 s.wide), .v (.int .i64 s.kerf), .v (.int .i64 s.across)]),
      (128, .row 62 1 ((laidL f n L st NN (X : Int)).map laidR) false), (296, .row 42 2 ((((f X).take j.1).map (fun y => ((X : Int), y))).map plcR) false)]⟩) (fun j => (f X).length - j.1) ⟨0, by omega⟩ [some 232] ?_ ?_
    · simp (maxSteps := 2000000) only [enA, ↓enP, Nat.reduceAdd, Nat.reduceMul, Nat.reduceSub, Nat.reduceLT, Nat.reduceLeDiff, Nat.reduceEqDiff, Nat.reduceBEq, ↓reduceIte, reduceCtorEq, fA]
      rfl
    intro j B2 hB2
    obtain ⟨j, hj⟩ := j
    by_cases hc2 : j < (f X).length
    · have q2 : (j < (f X).length) = True := eq_true hc2
      have e3 : IntKind.i64.wrap ((j : Int) + 1) = ((j + 1 : Nat) : Int) := wrap_id (by omega) (by omega)
      have t1 : ((f X).take j).length = j := by simp; omega
      simp (maxSteps := 2000000) only [vcA, ↓vcP, ↓reduceIte, reduceCtorEq, Nat.reduceAdd, Nat.reduceMul, Nat.reduceSub, Nat.reduceLT, Nat.reduceLeDiff, Nat.reduceEqDiff, Nat.reduceBEq, Nat.reduceBNe, Nat.reduceGT, Nat.reduceDiv, Nat.reduceMod, Int.reduceAdd, Int.reduceSub, Int.reduceNeg, Int.reduceLT, Int.reduceLE, Int.reduceEq, Int.reduceToNat, fA, q2, e3, iR, t1, List.length_map]
      refine ⟨⟨by omega, by simp only [maxLen]; omega⟩, fun _ => hB2 _ ⟨j + 1, by omega⟩ [some 424] (by simp only; omega) rfl ?_⟩
      simp (maxSteps := 2000000) only [enA, ↓enP, Nat.reduceAdd, Nat.reduceMul, Nat.reduceSub, Nat.reduceLT, Nat.reduceLeDiff, Nat.reduceEqDiff, Nat.reduceBEq, ↓reduceIte, reduceCtorEq, fA]
      rw [take_nth hc2]
      simp [plcR]
    have q2 : (j < (f X).length) = False := eq_false hc2
    have : j = (f X).length := by omega
    subst this
    have hlenL : (laidL f n L st NN (X : Int)).length = NN := laidL_length _ _ _ _ _ _
    have u1 : IntKind.i64.wrap ((X : Int) + 1) = ((X + 1 : Nat) : Int) := wrap_id (by omega) (by omega)
    have u2 : IntKind.i64.wrap ((X : Int) + s.long) = X + s.long := wrap_id (by omega) (by omega)
    have u3 : IntKind.i64.wrap ((X : Int) + s.long + s.across) = ((X + st : Nat) : Int) := (wrap_id (by omega) (by omega)).trans (by omega)
    have u5 : IntKind.i64.wrap ((X : Int) - 1) = X - 1 := wrap_id (by omega) (by omega)
    have g1 : nth (laidL f n L st NN (X : Int)) (X + 1) = mostG f n L st (X + 1) := by rw [laidL_nth (by omega), if_pos (by omega)]
    have g2 : nth (laidL f n L st NN (X : Int)) (X + st) = mostG f n L st (X + st) := by rw [laidL_nth (by omega), if_pos (by omega)]
    have q3 : (X + 1 < NN) = True := eq_true (by omega)
    have q4 : (X + st < NN) = True := eq_true (by omega)
    have q5 : (X < NN) = True := eq_true (by omega)
    have hset : ∀ l, (laidL f n L st NN (X : Int)).set X l = (laidL f n L st NN (X : Int)).set X l := fun _ => rfl
    obtain ⟨LL, hLL⟩ : ∃ LL, LL = (laidL f n L st NN (X : Int)).set X (mostG f n L st (X + 1)) := ⟨_, rfl⟩
    have lLL : LL.length = NN := by rw [hLL, List.length_set, hlenL]
    have nLL : nth LL X = mostG f n L st (X + 1) := by rw [hLL, nth_set _ _ _ _ (by omega), if_pos rfl]
    have hs1 : (List.map laidR (laidL f n L st NN (X : Int))).set X (put ((List.map laidR (laidL f n L st NN (X : Int))).getD X []) 0 [.sl 2 (List.map plcR (mostG f n L st (X + 1)))]) = List.map laidR LL := by rw [hLL]; exact set_laid _ _ _ (by omega)
    simp (maxSteps := 2000000) only [vcA, ↓vcP, ↓reduceIte, reduceCtorEq, Nat.reduceAdd, Nat.reduceMul, Nat.reduceSub, Nat.reduceLT, Nat.reduceLeDiff, Nat.reduceEqDiff, Nat.reduceBEq, Nat.reduceBNe, Nat.reduceGT, Nat.reduceDiv, Nat.reduceMod, Int.reduceAdd, Int.reduceSub, Int.reduceNeg, Int.reduceLT, Int.reduceLE, Int.reduceEq, Int.reduceToNat, fA, q2, u1, u2, u3, u5, g1, g2, q3, q4, q5, hlenL, lLL, nLL, hs1, laidR, List.length_map, List.take_length]
    have hmle : (mostG f n L st (X + st)).length ≤ 301 * (n + 1) := mostG_le (by omega) (fun x hx => by rw [hf]; exact hblk x (by omega)) _
    have hml : (f X).length + (mostG f n L st (X + st)).length ≤ maxLen := by simp only [maxLen]; omega
    have href := mostG_ref (f := f) (n := n) (long := L) (step := st) (x := X) (by omega) (by omega) (by omega)
    rw [List.length_append, List.length_map] at href
    have keep : mostG f n L st X = mostG f n L st (X + 1) → LL = laidL f n L st NN ((X : Int) - 1) := fun h => by rw [hLL, ← h]; exact laidL_set
    have take : mostG f n L st X = (f X).map (fun y => ((X : Int), y)) ++ mostG f n L st (X + st) → (List.map laidR LL).set X (put ((List.map laidR LL).getD X []) 0 [DV.sl 2 (List.map plcR ((f X).map (fun y => ((X : Int), y))) ++ List.map plcR (mostG f n L st (X + st)))]) = List.map laidR (laidL f n L st NN ((X : Int) - 1)) := fun h => by
      rw [← List.map_append, ← h, set_laid _ _ _ (by omega), hLL, List.set_set, laidL_set]
    refine ⟨⟨by omega, hml⟩, fun _ => ⟨fun c1 => ⟨fun c2 => ⟨fun c3 => ?_, fun c3 => ?_⟩, fun c2 => ?_⟩, fun c1 => ?_⟩⟩
    · have c2 : (f X).length + (mostG f n L st (X + st)).length = (mostG f n L st (X + 1)).length := by simp at c2; omega
      rw [take (by rw [href, if_pos (.inr ⟨c2, by omega⟩)])]
      refine hB _ ⟨(X : Int) - 1, by omega, by omega⟩ [] (by simp only; omega) rfl ?_
      simp (maxSteps := 2000000) only [enA, ↓enP, Nat.reduceAdd, Nat.reduceMul, Nat.reduceSub, Nat.reduceLT, Nat.reduceLeDiff, Nat.reduceEqDiff, Nat.reduceBEq, ↓reduceIte, reduceCtorEq, fA]
    · rw [keep (by rw [href, if_neg (by omega)])]
      refine hB _ ⟨(X : Int) - 1, by omega, by omega⟩ [] (by simp only; omega) rfl ?_
      simp (maxSteps := 2000000) only [enA, ↓enP, Nat.reduceAdd, Nat.reduceMul, Nat.reduceSub, Nat.reduceLT, Nat.reduceLeDiff, Nat.reduceEqDiff, Nat.reduceBEq, ↓reduceIte, reduceCtorEq, fA]
    · have c2 : (f X).length + (mostG f n L st (X + st)).length ≠ (mostG f n L st (X + 1)).length := by simp at c2; omega
      rw [keep (by rw [href, if_neg (by omega)])]
      refine hB _ ⟨(X : Int) - 1, by omega, by omega⟩ [] (by simp only; omega) rfl ?_
      simp (maxSteps := 2000000) only [enA, ↓enP, Nat.reduceAdd, Nat.reduceMul, Nat.reduceSub, Nat.reduceLT, Nat.reduceLeDiff, Nat.reduceEqDiff, Nat.reduceBEq, ↓reduceIte, reduceCtorEq, fA]
    · rw [take (by rw [href, if_pos (.inl (by omega))])]
      refine hB _ ⟨(X : Int) - 1, by omega, by omega⟩ [] (by simp only; omega) rfl ?_
      simp (maxSteps := 2000000) only [enA, ↓enP, Nat.reduceAdd, Nat.reduceMul, Nat.reduceSub, Nat.reduceLT, Nat.reduceLeDiff, Nat.reduceEqDiff, Nat.reduceBEq, ↓reduceIte, reduceCtorEq, fA]
  have qc : (x ≥ 0) = False := eq_false (by omega)
  have hlenL : (laidL f n L st NN x).length = NN := laidL_length _ _ _ _ _ _
  have g0 : nth (laidL f n L st NN x) 0 = mostI v s := by
    rw [laidL_nth (by omega), if_pos (by omega)]
    unfold mostI
    rw [hf, hn, hL, hst2]
  have q0 : (0 < NN) = True := eq_true (by omega)
  simp (maxSteps := 2000000) only [vcA, ↓vcP, ↓reduceIte, reduceCtorEq, Nat.reduceAdd, Nat.reduceMul, Nat.reduceSub, Nat.reduceLT, Nat.reduceLeDiff, Nat.reduceEqDiff, Nat.reduceBEq, Nat.reduceBNe, Nat.reduceGT, Nat.reduceDiv, Nat.reduceMod, Int.reduceAdd, Int.reduceSub, Int.reduceNeg, Int.reduceLT, Int.reduceLE, Int.reduceEq, Int.reduceToNat, fA, qc, hlenL, g0, q0, laidR]
  refine ⟨by omega, fun _ => hR _ (fin_of0 ?_)⟩
  simp (maxSteps := 2000000) only [enA, ↓enP, Nat.reduceAdd, Nat.reduceMul, Nat.reduceSub, Nat.reduceLT, Nat.reduceLeDiff, Nat.reduceEqDiff, Nat.reduceBEq, ↓reduceIte, reduceCtorEq, fA]
end Go.Proofs.Ytafpicjnccffgaa.Ab.T01
