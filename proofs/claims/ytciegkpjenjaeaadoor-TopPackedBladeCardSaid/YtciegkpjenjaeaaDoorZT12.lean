/- The contract of most. The contracts of Most, and of slices.Concat for what is spoilt. The contracts of Costs and Widest. -/
import Derived.Test.YtciegkpjenjaeaaDoorZT10
namespace Go.Proofs.YtciegkpjenjaeaaDoor.Ab
open Go Go.RowKit
set_option linter.unusedVariables false
set_option linter.unusedSimpArgs false
set_option maxRecDepth 100000
set_option maxHeartbeats 4000000 in
theorem most_spec (v : Vw) (s : Sw) (hv : v.Ok) (hs : sawOk s = true) : SpecF Tryd.prog 13 [.agg [.sl 1 (v.bottom.map iR), .sl 1 (v.top.map iR), .sl 4 (v.spoils.map spoR)], .agg [.v (.int .i64 s.long), .v (.int .i64 s.wide), .v (.int .i64 s.kerf), .v (.int .i64 s.across)]] (.ob 0 (mostI v s).length) [.row 96 2 ((mostI v s).map plcR) false] := by
  have hs0 := hs
  unfold sawOk at hs
  simp only [Bool.and_eq_true] at hs
  have s1 := betw1 hs.1.1
  have s2 := betw1 hs.1.2
  have s3 := (betw2 hs.2)
  have hle := hv.le
  have el : ((s.long.toNat : Nat) : Int) = s.long := by omega
  obtain ⟨NN, hNN⟩ : ∃ NN, NN = v.bottom.length + stepN s + 1 := ⟨_, rfl⟩
  have hst : ((stepN s : Nat) : Int) = s.long + s.across := by unfold stepN; omega
  have hN : (v.bottom.length : Int) + s.long + s.across + 1 = NN := by omega
  have w1 : IntKind.i64.wrap ((v.bottom.length : Int) + s.long) = v.bottom.length + s.long := wrap_id (by omega) (by omega)
  have w2 : IntKind.i64.wrap ((v.bottom.length : Int) + s.long + s.across) = v.bottom.length + s.long + s.across := wrap_id (by omega) (by omega)
  have w3 : IntKind.i64.wrap ((v.bottom.length : Int) + s.long + s.across + 1) = NN := by rw [hN]; exact wrap_id (by omega) (by omega)
  have w4 : IntKind.i64.wrap ((v.bottom.length : Int) - s.long) = v.bottom.length - s.long := wrap_id (by omega) (by omega)
  refine spec_go (N := 121) (rs := [.tmp 4]) (eq := eqs) rfl rfl fun_13 rfl (by kernel_rfl) (by kernel_rfl) (by simp) (by simp) (by simp) (by simp) fun R hR => ?_
  simp (maxSteps := 2000000) only [vcA, ↓vcP, ↓reduceIte, reduceCtorEq, Nat.reduceAdd, Nat.reduceMul, Nat.reduceSub, Nat.reduceLT, Nat.reduceLeDiff, Nat.reduceEqDiff, Nat.reduceBEq, Nat.reduceBNe, Nat.reduceGT, Nat.reduceDiv, Nat.reduceMod, Int.reduceAdd, Int.reduceSub, Int.reduceNeg, Int.reduceLT, Int.reduceLE, Int.reduceEq, Int.reduceToNat, fA, w1, w2, w3, w4]
  refine ⟨by simp only [maxLen]; omega, fun _ => ?_⟩
  have hblk : ∀ x, x + s.long.toNat ≤ v.bottom.length → (blockI v s x).length ≤ 301 := fun x hx => blockI_len hv (by omega) hx
  obtain ⟨st, hst2⟩ : ∃ st, st = stepN s := ⟨_, rfl⟩
  obtain ⟨L, hL⟩ : ∃ L, L = s.long.toNat := ⟨_, rfl⟩
  obtain ⟨n, hn⟩ : ∃ n, n = v.bottom.length := ⟨_, rfl⟩
  obtain ⟨f, hf⟩ : ∃ f : Nat → Nat, f = fun x => (blockI v s x).length := ⟨_, rfl⟩
  refine goC_loop (α := {x : Int // x ≤ n - L ∧ (-1 ≤ x ∨ x = n - L)}) (fun x => ⟨[(2, .ptr 8 0), (3, .ptr 16 0), (4, .v (.slice none 0 0)), (5, .v (.int .i64 n)), (6, .ob 128 NN), (7, .mp 144), (8, .v (.int .i64 x.1))], [(8, .box 67 [.sl 1 (v.bottom.map iR), .sl 1 (v.top.map iR), .sl 4 (v.spoils.map spoR)]), (16, .box 34 [.v (.int .i64 s.long), .v (.int .i64 s.wide), .v (.int .i64 s.kerf), .v (.int .i64 s.across)]),
    (128, .row 3 1 ((bestL f n L st NN x.1).map iR) false), (144, .map .i64 (blkF v s x.1))]⟩) (fun x => (x.1 + 1).toNat) ⟨n - L, by omega, by omega⟩ [] ?_ ?_
  · simp (maxSteps := 2000000) only [enA, ↓enP, Nat.reduceAdd, Nat.reduceMul, Nat.reduceSub, Nat.reduceLT, Nat.reduceLeDiff, Nat.reduceEqDiff, Nat.reduceBEq, ↓reduceIte, reduceCtorEq, fA]
    rw [bestL_end (by omega), blkF_end (by omega), List.map_replicate]
    refine ⟨⟨by omega, by omega⟩, rfl, rfl⟩
  intro x B hB
  obtain ⟨x, hx1, hx2⟩ := x
  simp (maxSteps := 2000000) only [vcA, ↓vcP, ↓reduceIte, reduceCtorEq, Nat.reduceAdd, Nat.reduceMul, Nat.reduceSub, Nat.reduceLT, Nat.reduceLeDiff, Nat.reduceEqDiff, Nat.reduceBEq, Nat.reduceBNe, Nat.reduceGT, Nat.reduceDiv, Nat.reduceMod, Int.reduceAdd, Int.reduceSub, Int.reduceNeg, Int.reduceLT, Int.reduceLE, Int.reduceEq, Int.reduceToNat, fA]
  refine ⟨fun c1 => ?_, fun c1 => ?_⟩
  · obtain ⟨X, rfl⟩ : ∃ X : Nat, x = X := ⟨x.toNat, by omega⟩
    refine onF_call (block_spec v s X hv hs0 (by omega)) [] [] [] ?_ ?_
    · simp (maxSteps := 2000000) only [okA, ↓okP, Nat.reduceAdd, Nat.reduceMul, Nat.reduceSub, Nat.reduceLT, Nat.reduceLeDiff, Nat.reduceEqDiff, Nat.reduceBEq, ↓reduceIte, reduceCtorEq]
    have hlenL : (bestL f n L st NN (X : Int)).length = NN := bestL_length _ _ _ _ _ _
    have u1 : IntKind.i64.wrap ((X : Int) + 1) = ((X + 1 : Nat) : Int) := wrap_id (by omega) (by omega)
    have u2 : IntKind.i64.wrap ((X : Int) + s.long) = X + s.long := wrap_id (by omega) (by omega)
    have u3 : IntKind.i64.wrap ((X : Int) + s.long + s.across) = ((X + st : Nat) : Int) := (wrap_id (by omega) (by omega)).trans (by omega)
    have g1 : nth (bestL f n L st NN (X : Int)) (X + 1) = bst f n L st (X + 1) := by rw [bestL_nth (by omega), if_pos (by omega)]
    have g2 : nth (bestL f n L st NN (X : Int)) (X + st) = bst f n L st (X + st) := by rw [bestL_nth (by omega), if_pos (by omega)]
    have hfle : ∀ x, x + L ≤ n → f x ≤ 301 := fun x hx => by rw [hf]; exact hblk x (by omega)
    have b1 := bst_le (f := f) (n := n) (long := L) (step := st) (c := 301) (by omega) hfle (X + 1)
    have b2 := bst_le (f := f) (n := n) (long := L) (step := st) (c := 301) (by omega) hfle (X + st)
    have b3 := hfle X (by omega)
    have hfX : f X = (blockI v s X).length := by rw [hf]
    have u4 : IntKind.i64.wrap (((blockI v s X).length : Int) + (bst f n L st (X + st) : Int)) = (blockI v s X).length + bst f n L st (X + st) := wrap_id (by omega) (by omega)
    have u5 : IntKind.i64.wrap ((X : Int) - 1) = X - 1 := wrap_id (by omega) (by omega)
    have q1 : (X + 1 < NN) = True := eq_true (by omega)
    have q2 : (X + st < NN) = True := eq_true (by omega)
    have q3 : (X < NN) = True := eq_true (by omega)
    simp (maxSteps := 2000000) only [vcA, ↓vcP, ↓reduceIte, reduceCtorEq, Nat.reduceAdd, Nat.reduceMul, Nat.reduceSub, Nat.reduceLT, Nat.reduceLeDiff, Nat.reduceEqDiff, Nat.reduceBEq, Nat.reduceBNe, Nat.reduceGT, Nat.reduceDiv, Nat.reduceMod, Int.reduceAdd, Int.reduceSub, Int.reduceNeg, Int.reduceLT, Int.reduceLE, Int.reduceEq, Int.reduceToNat, fA, u1, u2, u3, u4, u5, g1, g2, hlenL, iR, q1, q2, q3]
    repeat (first | refine ⟨by kernel_rfl, ?_⟩ | refine ⟨⟨by kernel_rfl, by kernel_rfl⟩, ?_⟩ | refine ⟨⟨by kernel_rfl, by kernel_rfl, by kernel_rfl⟩, ?_⟩ | refine ⟨⟨by kernel_rfl, by kernel_rfl, by kernel_rfl, by kernel_rfl⟩, ?_⟩ | refine ⟨⟨by kernel_rfl, by kernel_rfl, by kernel_rfl, by kernel_rfl, by kernel_rfl⟩, ?_⟩ | refine ⟨⟨by kernel_rfl, by kernel_rfl, by kernel_rfl, by kernel_rfl, by kernel_rfl, by kernel_rfl⟩, ?_⟩ | refine ⟨⟨by kernel_rfl, by kernel_rfl, by kernel_rfl, by kernel_rfl, by kernel_rfl, by kernel_rfl, by kernel_rfl⟩, ?_⟩ | refine ⟨⟨by kernel_rfl, by kernel_rfl, by kernel_rfl, by kernel_rfl, by kernel_rfl, by kernel_rfl, by kernel_rfl, by kernel_rfl⟩, ?_⟩ | refine ⟨⟨by kernel_rfl, by kernel_rfl, by kernel_rfl, by kernel_rfl, by kernel_rfl, by kernel_rfl, by kernel_rfl, by kernel_rfl, by kernel_rfl⟩, ?_⟩ | refine ⟨⟨by kernel_rfl, by kernel_rfl, by kernel_rfl, by kernel_rfl, by kernel_rfl, by kernel_rfl, by kernel_rfl, by kernel_rfl, by kernel_rfl, by kernel_rfl⟩, ?_⟩ | refine ⟨⟨by kernel_rfl, by kernel_rfl, by kernel_rfl, by kernel_rfl, by kernel_rfl, by kernel_rfl, by kernel_rfl, by kernel_rfl, by kernel_rfl, by kernel_rfl, by kernel_rfl⟩, ?_⟩ | refine ⟨⟨by kernel_rfl, by kernel_rfl, by kernel_rfl, by kernel_rfl, by kernel_rfl, by kernel_rfl, by kernel_rfl, by kernel_rfl, by kernel_rfl, by kernel_rfl, by kernel_rfl, by kernel_rfl⟩, ?_⟩ | refine ⟨⟨by kernel_rfl, by kernel_rfl, by kernel_rfl, by kernel_rfl, by kernel_rfl, by kernel_rfl, by kernel_rfl, by kernel_rfl, by kernel_rfl, by kernel_rfl, by kernel_rfl, by kernel_rfl, by kernel_rfl⟩, ?_⟩)
    refine hB _ ⟨(X : Int) - 1, by omega, by omega⟩ [] (by simp only; omega) rfl ?_
    simp (maxSteps := 2000000) only [enA, ↓enP, Nat.reduceAdd, Nat.reduceMul, Nat.reduceSub, Nat.reduceLT, Nat.reduceLeDiff, Nat.reduceEqDiff, Nat.reduceBEq, ↓reduceIte, reduceCtorEq, fA]
    have eb : max ((bst f n L st (X + 1) : Nat) : Int) ((blockI v s X).length + (bst f n L st (X + st) : Nat)) = (bst f n L st X : Nat) := by
      rw [bst_step (x := X) (by omega) (by omega) (by omega), ← hfX]
      omega
    refine ⟨?_, blkF_set (by omega)⟩
    rw [← bestL_set, List.map_set, eb, nth_map iR _ _ (by rw [hlenL]; omega)]
    rfl
  · have hM : mostI v s = mostG (blockI v s) n L st 0 := by unfold mostI; rw [← hn, ← hL, ← hst2]
    have hMle : (mostI v s).length ≤ 301 * (n + 1) := by rw [hM]; exact mostG_le (by omega) (fun x hx => hblk x (by omega)) 0
    have hlenL : (bestL f n L st NN x).length = NN := bestL_length _ _ _ _ _ _
    refine goC_loop (α := {q : Nat × List (Int × Int) // q.1 ≤ n + st ∧ mostI v s = q.2 ++ mostG (blockI v s) n L st q.1}) (fun q => ⟨[(3, .ptr 16 0), (4, .ob 256 q.1.2.length), (5, .v (.int .i64 n)), (6, .ob 128 NN), (7, .mp 144), (9, .v (.int .i64 q.1.1))], [(16, .box 34 [.v (.int .i64 s.long), .v (.int .i64 s.wide), .v (.int .i64 s.kerf), .v (.int .i64 s.across)]),
      (128, .row 3 1 ((bestL f n L st NN x).map iR) false), (144, .map .i64 (blkF v s x)), (256, .row 96 2 (q.1.2.map plcR) false)]⟩) (fun q => n + st + 1 - q.1.1) ⟨(0, []), by omega, by rw [hM]; rfl⟩ [none] ?_ ?_
    · simp (maxSteps := 2000000) only [enA, ↓enP, Nat.reduceAdd, Nat.reduceMul, Nat.reduceSub, Nat.reduceLT, Nat.reduceLeDiff, Nat.reduceEqDiff, Nat.reduceBEq, ↓reduceIte, reduceCtorEq, fA]
      rfl
    intro q B2 hB2
    obtain ⟨⟨X, acc⟩, hX, hinv⟩ := q
    simp only at hX hinv
    have u2 : IntKind.i64.wrap ((X : Int) + s.long) = X + s.long := wrap_id (by omega) (by omega)
    have u3 : IntKind.i64.wrap ((X : Int) + s.long + s.across) = ((X + st : Nat) : Int) := (wrap_id (by omega) (by omega)).trans (by omega)
    by_cases hc : X + L ≤ n
    · have qc : ((X : Int) + s.long ≤ n) = True := eq_true (by omega)
      have gX : blkF v s x X = some (.sl 1 ((blockI v s X).map iR)) := blkF_get (by omega) (by omega)
      have g1 : nth (bestL f n L st NN x) X = bst f n L st X := by rw [bestL_nth (by omega), if_pos (by omega)]
      have g2 : nth (bestL f n L st NN x) (X + st) = bst f n L st (X + st) := by rw [bestL_nth (by omega), if_pos (by omega)]
      have hfle : ∀ x, x + L ≤ n → f x ≤ 301 := fun x hx => by rw [hf]; exact hblk x (by omega)
      have b2 := bst_le (f := f) (n := n) (long := L) (step := st) (c := 301) (by omega) hfle (X + st)
      have b3 := hfle X (by omega)
      have hfX : f X = (blockI v s X).length := by rw [hf]
      have u4 : IntKind.i64.wrap (((blockI v s X).length : Int) + (bst f n L st (X + st) : Int)) = (blockI v s X).length + bst f n L st (X + st) := wrap_id (by omega) (by omega)
      have q2 : (X + st < NN) = True := eq_true (by omega)
      have q3 : (X < NN) = True := eq_true (by omega)
      have u1 : IntKind.i64.wrap ((X : Int) + 1) = ((X + 1 : Nat) : Int) := wrap_id (by omega) (by omega)
      have hms := mostG_step (f := blockI v s) (n := n) (long := L) (step := st) (x := X) (by omega) (by omega) hc
      rw [← hf] at hms
      have e3 : (X : Int) + (s.long + s.across) = ((X + st : Nat) : Int) := by omega
      have u5 : IntKind.i64.wrap (s.long + s.across) = s.long + s.across := wrap_id (by omega) (by omega)
      have u6 : IntKind.i64.wrap ((X : Int) + (s.long + s.across)) = ((X + st : Nat) : Int) := by rw [e3]; exact wrap_id (by omega) (by omega)
      have hskip : ((blockI v s X).length + bst f n L st (X + st) < bst f n L st X ∨ (blockI v s X).length = 0) → mostI v s = acc ++ mostG (blockI v s) n L st (X + 1) := fun h => by rw [hinv, hms, if_pos h]
      by_cases hA : (blockI v s X).length + bst f n L st (X + st) < bst f n L st X
      · have qa : (((blockI v s X).length : Int) + (bst f n L st (X + st) : Int) < (bst f n L st X : Int)) = True := eq_true (by omega)
        simp (maxSteps := 2000000) only [vcA, ↓vcP, ↓reduceIte, reduceCtorEq, Nat.reduceAdd, Nat.reduceMul, Nat.reduceSub, Nat.reduceLT, Nat.reduceLeDiff, Nat.reduceEqDiff, Nat.reduceBEq, Nat.reduceBNe, Nat.reduceGT, Nat.reduceDiv, Nat.reduceMod, Int.reduceAdd, Int.reduceSub, Int.reduceNeg, Int.reduceLT, Int.reduceLE, Int.reduceEq, Int.reduceToNat, fA, u1, u2, u3, u4, g1, g2, gX, hlenL, iR, q2, q3, qc, qa]
        repeat (first | refine ⟨by kernel_rfl, ?_⟩ | refine ⟨⟨by kernel_rfl, by kernel_rfl⟩, ?_⟩ | refine ⟨⟨by kernel_rfl, by kernel_rfl, by kernel_rfl⟩, ?_⟩ | refine ⟨⟨by kernel_rfl, by kernel_rfl, by kernel_rfl, by kernel_rfl⟩, ?_⟩ | refine ⟨⟨by kernel_rfl, by kernel_rfl, by kernel_rfl, by kernel_rfl, by kernel_rfl⟩, ?_⟩ | refine ⟨⟨by kernel_rfl, by kernel_rfl, by kernel_rfl, by kernel_rfl, by kernel_rfl, by kernel_rfl⟩, ?_⟩ | refine ⟨⟨by kernel_rfl, by kernel_rfl, by kernel_rfl, by kernel_rfl, by kernel_rfl, by kernel_rfl, by kernel_rfl⟩, ?_⟩ | refine ⟨⟨by kernel_rfl, by kernel_rfl, by kernel_rfl, by kernel_rfl, by kernel_rfl, by kernel_rfl, by kernel_rfl, by kernel_rfl⟩, ?_⟩ | refine ⟨⟨by kernel_rfl, by kernel_rfl, by kernel_rfl, by kernel_rfl, by kernel_rfl, by kernel_rfl, by kernel_rfl, by kernel_rfl, by kernel_rfl⟩, ?_⟩ | refine ⟨⟨by kernel_rfl, by kernel_rfl, by kernel_rfl, by kernel_rfl, by kernel_rfl, by kernel_rfl, by kernel_rfl, by kernel_rfl, by kernel_rfl, by kernel_rfl⟩, ?_⟩ | refine ⟨⟨by kernel_rfl, by kernel_rfl, by kernel_rfl, by kernel_rfl, by kernel_rfl, by kernel_rfl, by kernel_rfl, by kernel_rfl, by kernel_rfl, by kernel_rfl, by kernel_rfl⟩, ?_⟩ | refine ⟨⟨by kernel_rfl, by kernel_rfl, by kernel_rfl, by kernel_rfl, by kernel_rfl, by kernel_rfl, by kernel_rfl, by kernel_rfl, by kernel_rfl, by kernel_rfl, by kernel_rfl, by kernel_rfl⟩, ?_⟩ | refine ⟨⟨by kernel_rfl, by kernel_rfl, by kernel_rfl, by kernel_rfl, by kernel_rfl, by kernel_rfl, by kernel_rfl, by kernel_rfl, by kernel_rfl, by kernel_rfl, by kernel_rfl, by kernel_rfl, by kernel_rfl⟩, ?_⟩)
        refine hB2 _ ⟨(X + 1, acc), by omega, hskip (.inl hA)⟩ [some 256] (by simp only; omega) rfl ?_
        simp (maxSteps := 2000000) only [enA, ↓enP, Nat.reduceAdd, Nat.reduceMul, Nat.reduceSub, Nat.reduceLT, Nat.reduceLeDiff, Nat.reduceEqDiff, Nat.reduceBEq, ↓reduceIte, reduceCtorEq, fA]
      have qa : (((blockI v s X).length : Int) + (bst f n L st (X + st) : Int) < (bst f n L st X : Int)) = False := eq_false (by omega)
      by_cases hBz : (blockI v s X).length = 0
      · have qb : (((blockI v s X).length : Int) == 0) = true := by rw [hBz]; rfl
        simp (maxSteps := 2000000) only [vcA, ↓vcP, ↓reduceIte, reduceCtorEq, Nat.reduceAdd, Nat.reduceMul, Nat.reduceSub, Nat.reduceLT, Nat.reduceLeDiff, Nat.reduceEqDiff, Nat.reduceBEq, Nat.reduceBNe, Nat.reduceGT, Nat.reduceDiv, Nat.reduceMod, Int.reduceAdd, Int.reduceSub, Int.reduceNeg, Int.reduceLT, Int.reduceLE, Int.reduceEq, Int.reduceToNat, fA, u1, u2, u3, u4, g1, g2, gX, hlenL, iR, q2, q3, qc, qa, qb]
        repeat (first | refine ⟨by kernel_rfl, ?_⟩ | refine ⟨⟨by kernel_rfl, by kernel_rfl⟩, ?_⟩ | refine ⟨⟨by kernel_rfl, by kernel_rfl, by kernel_rfl⟩, ?_⟩ | refine ⟨⟨by kernel_rfl, by kernel_rfl, by kernel_rfl, by kernel_rfl⟩, ?_⟩ | refine ⟨⟨by kernel_rfl, by kernel_rfl, by kernel_rfl, by kernel_rfl, by kernel_rfl⟩, ?_⟩ | refine ⟨⟨by kernel_rfl, by kernel_rfl, by kernel_rfl, by kernel_rfl, by kernel_rfl, by kernel_rfl⟩, ?_⟩ | refine ⟨⟨by kernel_rfl, by kernel_rfl, by kernel_rfl, by kernel_rfl, by kernel_rfl, by kernel_rfl, by kernel_rfl⟩, ?_⟩ | refine ⟨⟨by kernel_rfl, by kernel_rfl, by kernel_rfl, by kernel_rfl, by kernel_rfl, by kernel_rfl, by kernel_rfl, by kernel_rfl⟩, ?_⟩ | refine ⟨⟨by kernel_rfl, by kernel_rfl, by kernel_rfl, by kernel_rfl, by kernel_rfl, by kernel_rfl, by kernel_rfl, by kernel_rfl, by kernel_rfl⟩, ?_⟩ | refine ⟨⟨by kernel_rfl, by kernel_rfl, by kernel_rfl, by kernel_rfl, by kernel_rfl, by kernel_rfl, by kernel_rfl, by kernel_rfl, by kernel_rfl, by kernel_rfl⟩, ?_⟩ | refine ⟨⟨by kernel_rfl, by kernel_rfl, by kernel_rfl, by kernel_rfl, by kernel_rfl, by kernel_rfl, by kernel_rfl, by kernel_rfl, by kernel_rfl, by kernel_rfl, by kernel_rfl⟩, ?_⟩ | refine ⟨⟨by kernel_rfl, by kernel_rfl, by kernel_rfl, by kernel_rfl, by kernel_rfl, by kernel_rfl, by kernel_rfl, by kernel_rfl, by kernel_rfl, by kernel_rfl, by kernel_rfl, by kernel_rfl⟩, ?_⟩ | refine ⟨⟨by kernel_rfl, by kernel_rfl, by kernel_rfl, by kernel_rfl, by kernel_rfl, by kernel_rfl, by kernel_rfl, by kernel_rfl, by kernel_rfl, by kernel_rfl, by kernel_rfl, by kernel_rfl, by kernel_rfl⟩, ?_⟩)
        refine hB2 _ ⟨(X + 1, acc), by omega, hskip (.inr hBz)⟩ [some 256] (by simp only; omega) rfl ?_
        simp (maxSteps := 2000000) only [enA, ↓enP, Nat.reduceAdd, Nat.reduceMul, Nat.reduceSub, Nat.reduceLT, Nat.reduceLeDiff, Nat.reduceEqDiff, Nat.reduceBEq, ↓reduceIte, reduceCtorEq, fA]
      have qb : (((blockI v s X).length : Int) == 0) = false := beq_eq_false_iff_ne.2 (by omega)
      simp (maxSteps := 2000000) only [vcA, ↓vcP, ↓reduceIte, reduceCtorEq, Nat.reduceAdd, Nat.reduceMul, Nat.reduceSub, Nat.reduceLT, Nat.reduceLeDiff, Nat.reduceEqDiff, Nat.reduceBEq, Nat.reduceBNe, Nat.reduceGT, Nat.reduceDiv, Nat.reduceMod, Int.reduceAdd, Int.reduceSub, Int.reduceNeg, Int.reduceLT, Int.reduceLE, Int.reduceEq, Int.reduceToNat, fA, u1, u2, u3, u4, g1, g2, gX, hlenL, iR, q2, q3, qc, qa, qb]
      repeat (first | refine ⟨by kernel_rfl, ?_⟩ | refine ⟨⟨by kernel_rfl, by kernel_rfl⟩, ?_⟩ | refine ⟨⟨by kernel_rfl, by kernel_rfl, by kernel_rfl⟩, ?_⟩ | refine ⟨⟨by kernel_rfl, by kernel_rfl, by kernel_rfl, by kernel_rfl⟩, ?_⟩ | refine ⟨⟨by kernel_rfl, by kernel_rfl, by kernel_rfl, by kernel_rfl, by kernel_rfl⟩, ?_⟩ | refine ⟨⟨by kernel_rfl, by kernel_rfl, by kernel_rfl, by kernel_rfl, by kernel_rfl, by kernel_rfl⟩, ?_⟩ | refine ⟨⟨by kernel_rfl, by kernel_rfl, by kernel_rfl, by kernel_rfl, by kernel_rfl, by kernel_rfl, by kernel_rfl⟩, ?_⟩ | refine ⟨⟨by kernel_rfl, by kernel_rfl, by kernel_rfl, by kernel_rfl, by kernel_rfl, by kernel_rfl, by kernel_rfl, by kernel_rfl⟩, ?_⟩ | refine ⟨⟨by kernel_rfl, by kernel_rfl, by kernel_rfl, by kernel_rfl, by kernel_rfl, by kernel_rfl, by kernel_rfl, by kernel_rfl, by kernel_rfl⟩, ?_⟩ | refine ⟨⟨by kernel_rfl, by kernel_rfl, by kernel_rfl, by kernel_rfl, by kernel_rfl, by kernel_rfl, by kernel_rfl, by kernel_rfl, by kernel_rfl, by kernel_rfl⟩, ?_⟩ | refine ⟨⟨by kernel_rfl, by kernel_rfl, by kernel_rfl, by kernel_rfl, by kernel_rfl, by kernel_rfl, by kernel_rfl, by kernel_rfl, by kernel_rfl, by kernel_rfl, by kernel_rfl⟩, ?_⟩ | refine ⟨⟨by kernel_rfl, by kernel_rfl, by kernel_rfl, by kernel_rfl, by kernel_rfl, by kernel_rfl, by kernel_rfl, by kernel_rfl, by kernel_rfl, by kernel_rfl, by kernel_rfl, by kernel_rfl⟩, ?_⟩ | refine ⟨⟨by kernel_rfl, by kernel_rfl, by kernel_rfl, by kernel_rfl, by kernel_rfl, by kernel_rfl, by kernel_rfl, by kernel_rfl, by kernel_rfl, by kernel_rfl, by kernel_rfl, by kernel_rfl, by kernel_rfl⟩, ?_⟩)
      rw [if_neg (by omega)] at hms
      obtain ⟨bl, hbl⟩ : ∃ bl, bl = blockI v s X := ⟨_, rfl⟩
      rw [← hbl] at hms gX hBz qb hfX ⊢
      have hinv2 : mostI v s = acc ++ bl.map (fun y => ((X : Int), y)) ++ mostG (blockI v s) n L st (X + st) := by rw [hinv, hms, List.append_assoc]
      have hacc : acc.length + bl.length ≤ 301 * (n + 1) := by
        rw [hinv2] at hMle
        simp only [List.length_append, List.length_map] at hMle
        omega
      refine goC_loop (α := {j : Nat // j ≤ bl.length}) (fun j => ⟨[(3, .ptr 16 0), (4, .ob 592 (acc ++ (bl.take j.1).map (fun y => ((X : Int), y))).length), (5, .v (.int .i64 n)), (6, .ob 128 NN), (7, .mp 144), (9, .v (.int .i64 X)), (100, .sl 1 (bl.map iR)), (101, .v (.int .i64 bl.length)), (102, .v (.int .i64 j.1))],
        [(16, .box 34 [.v (.int .i64 s.long), .v (.int .i64 s.wide), .v (.int .i64 s.kerf), .v (.int .i64 s.across)]), (128, .row 3 1 ((bestL f n L st NN x).map iR) false), (144, .map .i64 (blkF v s x)), (592, .row 96 2 ((acc ++ (bl.take j.1).map (fun y => ((X : Int), y))).map plcR) false)]⟩) (fun j => bl.length - j.1) ⟨0, by omega⟩ [some 256] ?_ ?_
      · simp (maxSteps := 2000000) only [enA, ↓enP, Nat.reduceAdd, Nat.reduceMul, Nat.reduceSub, Nat.reduceLT, Nat.reduceLeDiff, Nat.reduceEqDiff, Nat.reduceBEq, ↓reduceIte, reduceCtorEq, fA]
        simp
      intro j B3 hB3
      obtain ⟨j, hj⟩ := j
      have htl : (bl.take j).length = j := by simp; omega
      have hlen : (acc ++ (bl.take j).map (fun y => ((X : Int), y))).length = acc.length + j := by rw [List.length_append, List.length_map, htl]
      have hml : (acc ++ (bl.take j).map (fun y => ((X : Int), y))).length + 1 ≤ 40000 := by rw [hlen]; omega
      simp (maxSteps := 2000000) only [vcA, ↓vcP, ↓reduceIte, reduceCtorEq, Nat.reduceAdd, Nat.reduceMul, Nat.reduceSub, Nat.reduceLT, Nat.reduceLeDiff, Nat.reduceEqDiff, Nat.reduceBEq, Nat.reduceBNe, Nat.reduceGT, Nat.reduceDiv, Nat.reduceMod, Int.reduceAdd, Int.reduceSub, Int.reduceNeg, Int.reduceLT, Int.reduceLE, Int.reduceEq, Int.reduceToNat, fA, iR, u3, u5, u6]
      refine ⟨fun h4 => ⟨h4, fun _ => ⟨h4, fun _ => ⟨⟨by omega, Nat.le_trans hml (by simp only [maxLen]; omega)⟩, fun _ => hB3 _ ⟨j + 1, by omega⟩ [some 696] (by simp only; omega) rfl ?_⟩⟩⟩, fun h4 => hB2 _ ⟨(X + st, acc ++ bl.map (fun y => ((X : Int), y))), by simp only; omega, hinv2⟩ [some 592] (by simp only; omega) rfl ?_⟩
      · simp (maxSteps := 2000000) only [enA, ↓enP, Nat.reduceAdd, Nat.reduceMul, Nat.reduceSub, Nat.reduceLT, Nat.reduceLeDiff, Nat.reduceEqDiff, Nat.reduceBEq, ↓reduceIte, reduceCtorEq, fA]
        rw [wrap_id (by omega) (by omega), take_nth h4]
        simp [plcR, htl]
        omega
      · have : j = bl.length := by omega
        subst this
        rw [List.take_length]
        simp (maxSteps := 2000000) only [enA, ↓enP, Nat.reduceAdd, Nat.reduceMul, Nat.reduceSub, Nat.reduceLT, Nat.reduceLeDiff, Nat.reduceEqDiff, Nat.reduceBEq, ↓reduceIte, reduceCtorEq, fA]
    · have qc : ((X : Int) + s.long ≤ n) = False := eq_false (by omega)
      simp (maxSteps := 2000000) only [vcA, ↓vcP, ↓reduceIte, reduceCtorEq, Nat.reduceAdd, Nat.reduceMul, Nat.reduceSub, Nat.reduceLT, Nat.reduceLeDiff, Nat.reduceEqDiff, Nat.reduceBEq, Nat.reduceBNe, Nat.reduceGT, Nat.reduceDiv, Nat.reduceMod, Int.reduceAdd, Int.reduceSub, Int.reduceNeg, Int.reduceLT, Int.reduceLE, Int.reduceEq, Int.reduceToNat, fA, u2, qc]
      refine hR _ (fin_of1 [some 256] ?_)
      have he : mostI v s = acc := by rw [hinv, mostG_end (by omega), List.append_nil]
      rw [he]
      simp (maxSteps := 2000000) only [enA, ↓enP, Nat.reduceAdd, Nat.reduceMul, Nat.reduceSub, Nat.reduceLT, Nat.reduceLeDiff, Nat.reduceEqDiff, Nat.reduceBEq, ↓reduceIte, reduceCtorEq, fA]
end Go.Proofs.YtciegkpjenjaeaaDoor.Ab
namespace Go.Proofs.YtciegkpjenjaeaaDoor.Ab
open Go Go.RowKit
set_option linter.unusedVariables false
set_option linter.unusedSimpArgs false
set_option maxRecDepth 100000
/-- An opened blade's view. -/
def sureB (b : Bl) : Vw := sureV (newLow b) (newTop b) b.cracks
def mostL (b : Bl) (s : Sw) : List (Int × Int) := if openErr b s = 0 then mostI (sureB b) s else []
theorem mostB_spec (b : Bl) (s : Sw) (h1 : b.bottom.length < 1000000) (h2 : b.top.length < 1000000) : SpecF Tryd.prog 5 [.agg [.sl 2 (b.bottom.map spR), .sl 2 (b.top.map spR), .v (.int .i64 b.bend), .sl 6 (b.cracks.map crR)], .agg [.v (.int .i64 s.long), .v (.int .i64 s.wide), .v (.int .i64 s.kerf), .v (.int .i64 s.across)]]
    (.tup [.ob 0 (mostL b s).length, .v (.int .i64 (openErr b s))]) [.row 96 2 ((mostL b s).map plcR) false] := by
  refine spec_go (N := 21) (rs := [.tmp 4, .tmp 5]) (eq := eqs) rfl rfl fun_5 rfl (by kernel_rfl) (by kernel_rfl) (by simp) (by simp) (by simp) (by simp) fun R hR => ?_
  simp (maxSteps := 2000000) only [vcA, ↓vcP, ↓reduceIte, reduceCtorEq, Nat.reduceAdd, Nat.reduceMul, Nat.reduceSub, Nat.reduceLT, Nat.reduceLeDiff, Nat.reduceEqDiff, Nat.reduceBEq, Nat.reduceBNe, Nat.reduceGT, Nat.reduceDiv, Nat.reduceMod, Int.reduceAdd, Int.reduceSub, Int.reduceNeg, Int.reduceLT, Int.reduceLE, Int.reduceEq, Int.reduceToNat, fA]
  refine onF_call (openB_spec b s h1 h2) [] [] [] ?_ ?_
  · simp (maxSteps := 2000000) only [okA, ↓okP, Nat.reduceAdd, Nat.reduceMul, Nat.reduceSub, Nat.reduceLT, Nat.reduceLeDiff, Nat.reduceEqDiff, Nat.reduceBEq, ↓reduceIte, reduceCtorEq]
  simp (maxSteps := 2000000) only [vcA, ↓vcP, ↓reduceIte, reduceCtorEq, Nat.reduceAdd, Nat.reduceMul, Nat.reduceSub, Nat.reduceLT, Nat.reduceLeDiff, Nat.reduceEqDiff, Nat.reduceBEq, Nat.reduceBNe, Nat.reduceGT, Nat.reduceDiv, Nat.reduceMod, Int.reduceAdd, Int.reduceSub, Int.reduceNeg, Int.reduceLT, Int.reduceLE, Int.reduceEq, Int.reduceToNat, fA]
  refine ⟨fun h3 => hR _ (fin_of1 [none] ?_), fun h3 => ?_⟩
  · have h4 : openErr b s ≠ 0 := by simpa using h3
    have e1 : mostL b s = [] := by unfold mostL; rw [if_neg h4]
    rw [e1]
    simp (maxSteps := 2000000) only [enA, ↓enP, Nat.reduceAdd, Nat.reduceMul, Nat.reduceSub, Nat.reduceLT, Nat.reduceLeDiff, Nat.reduceEqDiff, Nat.reduceBEq, ↓reduceIte, reduceCtorEq, fA]
  have h4 : openErr b s = 0 := by simpa using h3
  obtain ⟨hN, hS⟩ := open_ok h4
  obtain ⟨n0, o1, o2, l1, l2, g1, g2, g3, _⟩ := new_ok hN
  rw [n0]
  refine onF_call (sure_spec b (newLow b) (newTop b) (by omega) (by omega) (by omega)) [56, 57] [] [] ?_ ?_
  · simp (maxSteps := 2000000) only [okA, ↓okP, Nat.reduceAdd, Nat.reduceMul, Nat.reduceSub, Nat.reduceLT, Nat.reduceLeDiff, Nat.reduceEqDiff, Nat.reduceBEq, ↓reduceIte, reduceCtorEq]
  simp (maxSteps := 2000000) only [vcA, ↓vcP, ↓reduceIte, reduceCtorEq, Nat.reduceAdd, Nat.reduceMul, Nat.reduceSub, Nat.reduceLT, Nat.reduceLeDiff, Nat.reduceEqDiff, Nat.reduceBEq, Nat.reduceBNe, Nat.reduceGT, Nat.reduceDiv, Nat.reduceMod, Int.reduceAdd, Int.reduceSub, Int.reduceNeg, Int.reduceLT, Int.reduceLE, Int.reduceEq, Int.reduceToNat, fA]
  repeat (first | refine ⟨by kernel_rfl, ?_⟩ | refine ⟨⟨by kernel_rfl, by kernel_rfl⟩, ?_⟩ | refine ⟨⟨by kernel_rfl, by kernel_rfl, by kernel_rfl⟩, ?_⟩ | refine ⟨⟨by kernel_rfl, by kernel_rfl, by kernel_rfl, by kernel_rfl⟩, ?_⟩ | refine ⟨⟨by kernel_rfl, by kernel_rfl, by kernel_rfl, by kernel_rfl, by kernel_rfl⟩, ?_⟩ | refine ⟨⟨by kernel_rfl, by kernel_rfl, by kernel_rfl, by kernel_rfl, by kernel_rfl, by kernel_rfl⟩, ?_⟩ | refine ⟨⟨by kernel_rfl, by kernel_rfl, by kernel_rfl, by kernel_rfl, by kernel_rfl, by kernel_rfl, by kernel_rfl⟩, ?_⟩ | refine ⟨⟨by kernel_rfl, by kernel_rfl, by kernel_rfl, by kernel_rfl, by kernel_rfl, by kernel_rfl, by kernel_rfl, by kernel_rfl⟩, ?_⟩ | refine ⟨⟨by kernel_rfl, by kernel_rfl, by kernel_rfl, by kernel_rfl, by kernel_rfl, by kernel_rfl, by kernel_rfl, by kernel_rfl, by kernel_rfl⟩, ?_⟩ | refine ⟨⟨by kernel_rfl, by kernel_rfl, by kernel_rfl, by kernel_rfl, by kernel_rfl, by kernel_rfl, by kernel_rfl, by kernel_rfl, by kernel_rfl, by kernel_rfl⟩, ?_⟩ | refine ⟨⟨by kernel_rfl, by kernel_rfl, by kernel_rfl, by kernel_rfl, by kernel_rfl, by kernel_rfl, by kernel_rfl, by kernel_rfl, by kernel_rfl, by kernel_rfl, by kernel_rfl⟩, ?_⟩ | refine ⟨⟨by kernel_rfl, by kernel_rfl, by kernel_rfl, by kernel_rfl, by kernel_rfl, by kernel_rfl, by kernel_rfl, by kernel_rfl, by kernel_rfl, by kernel_rfl, by kernel_rfl, by kernel_rfl⟩, ?_⟩ | refine ⟨⟨by kernel_rfl, by kernel_rfl, by kernel_rfl, by kernel_rfl, by kernel_rfl, by kernel_rfl, by kernel_rfl, by kernel_rfl, by kernel_rfl, by kernel_rfl, by kernel_rfl, by kernel_rfl, by kernel_rfl⟩, ?_⟩)
  refine onF_call (most_spec (sureV (newLow b) (newTop b) b.cracks) s (sure_ok hN) hS) [136, 137, 138] [] [] ?_ ?_
  · simp (maxSteps := 2000000) only [okA, ↓okP, Nat.reduceAdd, Nat.reduceMul, Nat.reduceSub, Nat.reduceLT, Nat.reduceLeDiff, Nat.reduceEqDiff, Nat.reduceBEq, ↓reduceIte, reduceCtorEq]
  simp (maxSteps := 2000000) only [vcA, ↓vcP, ↓reduceIte, reduceCtorEq, Nat.reduceAdd, Nat.reduceMul, Nat.reduceSub, Nat.reduceLT, Nat.reduceLeDiff, Nat.reduceEqDiff, Nat.reduceBEq, Nat.reduceBNe, Nat.reduceGT, Nat.reduceDiv, Nat.reduceMod, Int.reduceAdd, Int.reduceSub, Int.reduceNeg, Int.reduceLT, Int.reduceLE, Int.reduceEq, Int.reduceToNat, fA]
  repeat (first | refine ⟨by kernel_rfl, ?_⟩ | refine ⟨⟨by kernel_rfl, by kernel_rfl⟩, ?_⟩ | refine ⟨⟨by kernel_rfl, by kernel_rfl, by kernel_rfl⟩, ?_⟩ | refine ⟨⟨by kernel_rfl, by kernel_rfl, by kernel_rfl, by kernel_rfl⟩, ?_⟩ | refine ⟨⟨by kernel_rfl, by kernel_rfl, by kernel_rfl, by kernel_rfl, by kernel_rfl⟩, ?_⟩ | refine ⟨⟨by kernel_rfl, by kernel_rfl, by kernel_rfl, by kernel_rfl, by kernel_rfl, by kernel_rfl⟩, ?_⟩ | refine ⟨⟨by kernel_rfl, by kernel_rfl, by kernel_rfl, by kernel_rfl, by kernel_rfl, by kernel_rfl, by kernel_rfl⟩, ?_⟩ | refine ⟨⟨by kernel_rfl, by kernel_rfl, by kernel_rfl, by kernel_rfl, by kernel_rfl, by kernel_rfl, by kernel_rfl, by kernel_rfl⟩, ?_⟩ | refine ⟨⟨by kernel_rfl, by kernel_rfl, by kernel_rfl, by kernel_rfl, by kernel_rfl, by kernel_rfl, by kernel_rfl, by kernel_rfl, by kernel_rfl⟩, ?_⟩ | refine ⟨⟨by kernel_rfl, by kernel_rfl, by kernel_rfl, by kernel_rfl, by kernel_rfl, by kernel_rfl, by kernel_rfl, by kernel_rfl, by kernel_rfl, by kernel_rfl⟩, ?_⟩ | refine ⟨⟨by kernel_rfl, by kernel_rfl, by kernel_rfl, by kernel_rfl, by kernel_rfl, by kernel_rfl, by kernel_rfl, by kernel_rfl, by kernel_rfl, by kernel_rfl, by kernel_rfl⟩, ?_⟩ | refine ⟨⟨by kernel_rfl, by kernel_rfl, by kernel_rfl, by kernel_rfl, by kernel_rfl, by kernel_rfl, by kernel_rfl, by kernel_rfl, by kernel_rfl, by kernel_rfl, by kernel_rfl, by kernel_rfl⟩, ?_⟩ | refine ⟨⟨by kernel_rfl, by kernel_rfl, by kernel_rfl, by kernel_rfl, by kernel_rfl, by kernel_rfl, by kernel_rfl, by kernel_rfl, by kernel_rfl, by kernel_rfl, by kernel_rfl, by kernel_rfl, by kernel_rfl⟩, ?_⟩)
  refine hR _ (fin_of1 [some 152] ?_)
  have eL : mostL b s = mostI (sureV (newLow b) (newTop b) b.cracks) s := by unfold mostL; rw [if_pos h4]; rfl
  rw [eL, h4]
  simp (maxSteps := 2000000) only [enA, ↓enP, Nat.reduceAdd, Nat.reduceMul, Nat.reduceSub, Nat.reduceLT, Nat.reduceLeDiff, Nat.reduceEqDiff, Nat.reduceBEq, ↓reduceIte, reduceCtorEq, fA]
end Go.Proofs.YtciegkpjenjaeaaDoor.Ab
namespace Go.Proofs.YtciegkpjenjaeaaDoor.Ab
open Go Go.RowKit
set_option linter.unusedVariables false
set_option linter.unusedSimpArgs false
set_option maxRecDepth 100000
theorem openF_spec (b : Bl) (s : Sw) (h1 : b.bottom.length < 1000000) (h2 : b.top.length < 1000000) : SpecF Tryd.prog 11 [.agg [.sl 2 (b.bottom.map spR), .sl 2 (b.top.map spR), .v (.int .i64 b.bend), .sl 6 (b.cracks.map crR)], .agg [.v (.int .i64 s.long), .v (.int .i64 s.wide), .v (.int .i64 s.kerf), .v (.int .i64 s.across)]]
    (.tup [.agg [.sl 2 ((newB b).bottom.map spR), .sl 2 ((newB b).top.map spR), .v (.int .i64 (newB b).bend), .sl 6 ((newB b).cracks.map crR), .sl 2 ((newLow b).map spR), .sl 2 ((newTop b).map spR)], .v (.int .i64 (openErr b s))]) [] := (openB_spec b s h1 h2).frz
end Go.Proofs.YtciegkpjenjaeaaDoor.Ab
