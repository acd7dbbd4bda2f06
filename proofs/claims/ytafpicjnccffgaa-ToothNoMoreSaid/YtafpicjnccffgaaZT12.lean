/- The contract of most. The contracts of Most, and of slices.Concat for what is spoilt. The contracts of Costs and Widest. -/
import Derived.Test.YtafpicjnccffgaaZT10
namespace Go.Proofs.Ytafpicjnccffgaa.Ab
open Go Go.RowKit
set_option linter.unusedVariables false
set_option linter.unusedSimpArgs false
set_option maxRecDepth 100000
set_option maxHeartbeats 4000000 in
theorem most_spec (v : Vw) (s : Sw) (hv : v.Ok) (hs : sawOk s = true) : SpecF Try.prog 40 [.agg [.sl 1 (v.bottom.map iR), .sl 1 (v.top.map iR), .sl 4 (v.spoils.map spoR)], .agg [.v (.int .i64 s.long), .v (.int .i64 s.wide), .v (.int .i64 s.kerf), .v (.int .i64 s.across)]] (.ob 0 (mostI v s).length) [.row 42 2 ((mostI v s).map plcR) false] := by
  have hs0 := hs
  unfold sawOk at hs
  simp only [Bool.and_eq_true] at hs
  have s1 := betw1 hs.1.1
  have s2 := betw1 hs.1.2
  have s3 := (betw2 hs.2)
  have hle := hv.le
  have el : ((s.long.toNat : Nat) : Int) = s.long := by omega
  obtain ⟨NN, hNN⟩ : ∃ NN, NN = v.bottom.length + stepN s + 1 := ⟨_, rfl⟩
  have hst : ((stepN s : Nat) : Int) = s.long + s.across := by unfold stepN; omega
  have hN : (v.bottom.length : Int) + s.long + s.across + 1 = NN := by omega
  have w1 : IntKind.i64.wrap ((v.bottom.length : Int) + s.long) = v.bottom.length + s.long := wrap_id (by omega) (by omega)
  have w2 : IntKind.i64.wrap ((v.bottom.length : Int) + s.long + s.across) = v.bottom.length + s.long + s.across := wrap_id (by omega) (by omega)
  have w3 : IntKind.i64.wrap ((v.bottom.length : Int) + s.long + s.across + 1) = NN := by rw [hN]; exact wrap_id (by omega) (by omega)
  have w4 : IntKind.i64.wrap ((v.bottom.length : Int) - s.long) = v.bottom.length - s.long := wrap_id (by omega) (by omega)
  refine spec_go (N := 121) (rs := [.tmp 4]) (eq := eqs) rfl rfl fun_40 rfl (by kernel_rfl) (by kernel_rfl) (by simp) (by simp) (by simp) (by simp) fun R hR => ?_
  simp (maxSteps := 2000000) only [vcA, ↓vcP, ↓reduceIte, reduceCtorEq, Nat.reduceAdd, Nat.reduceMul, Nat.reduceSub, Nat.reduceLT, Nat.reduceLeDiff, Nat.reduceEqDiff, Nat.reduceBEq, Nat.reduceBNe, Nat.reduceGT, Nat.reduceDiv, Nat.reduceMod, Int.reduceAdd, Int.reduceSub, Int.reduceNeg, Int.reduceLT, Int.reduceLE, Int.reduceEq, Int.reduceToNat, fA, w1, w2, w3, w4]
  refine ⟨by simp only [maxLen]; omega, fun _ => ?_⟩
  have hblk : ∀ x, x + s.long.toNat ≤ v.bottom.length → (blockI v s x).length ≤ 301 := fun x hx => blockI_len hv (by omega) hx
  obtain ⟨st, hst2⟩ : ∃ st, st = stepN s := ⟨_, rfl⟩
  obtain ⟨L, hL⟩ : ∃ L, L = s.long.toNat := ⟨_, rfl⟩
  obtain ⟨n, hn⟩ : ∃ n, n = v.bottom.length := ⟨_, rfl⟩
  obtain ⟨f, hf⟩ : ∃ f : Nat → Nat, f = fun x => (blockI v s x).length := ⟨_, rfl⟩
  refine goC_loop (α := {x : Int // x ≤ n - L ∧ (-1 ≤ x ∨ x = n - L)}) (fun x => ⟨[(2, .ptr 8 0), (3, .ptr 16 0), (4, .v (.slice none 0 0)), (5, .v (.int .i64 n)), (6, .ob 128 NN), (7, .mp 144), (8, .v (.int .i64 x.1))], [(8, .box 94 [.sl 1 (v.bottom.map iR), .sl 1 (v.top.map iR), .sl 4 (v.spoils.map spoR)]), (16, .box 27 [.v (.int .i64 s.long), .v (.int .i64 s.wide), .v (.int .i64 s.kerf), .v (.int .i64 s.across)]),
    (128, .row 3 1 ((bestL f n L st NN x.1).map iR) false), (144, .map .i64 (blkF v s x.1))]⟩) (fun x => (x.1 + 1).toNat) ⟨n - L, by omega, by omega⟩ [] ?_ ?_
  · simp (maxSteps := 2000000) only [enA, ↓enP, Nat.reduceAdd, Nat.reduceMul, Nat.reduceSub, Nat.reduceLT, Nat.reduceLeDiff, Nat.reduceEqDiff, Nat.reduceBEq, ↓reduceIte, reduceCtorEq, fA]
    rw [bestL_end (by omega), blkF_end (by omega), List.map_replicate]
    refine ⟨⟨by omega, by omega⟩, rfl, rfl⟩
  intro x B hB
  obtain ⟨x, hx1, hx2⟩ := x
  simp (maxSteps := 2000000) only [vcA, ↓vcP, ↓reduceIte, reduceCtorEq, Nat.reduceAdd, Nat.reduceMul, Nat.reduceSub, Nat.reduceLT, Nat.reduceLeDiff, Nat.reduceEqDiff, Nat.reduceBEq, Nat.reduceBNe, Nat.reduceGT, Nat.reduceDiv, Nat.reduceMod, Int.reduceAdd, Int.reduceSub, Int.reduceNeg, Int.reduceLT, Int.reduceLE, Int.reduceEq, Int.reduceToNat, fA]
  refine ⟨fun c1 => ?_, fun c1 => ?_⟩
  · obtain ⟨X, rfl⟩ : ∃ X : Nat, x = X := ⟨x.toNat, by omega⟩
    refine onF_call (block_spec v s X hv hs0 (by omega)) [] [] [] ?_ ?_
    · simp (maxSteps := 2000000) only [okA, ↓okP, Nat.reduceAdd, Nat.reduceMul, Nat.reduceSub, Nat.reduceLT, Nat.reduceLeDiff, Nat.reduceEqDiff, Nat.reduceBEq, ↓reduceIte, reduceCtorEq]
    have hlenL : (bestL f n L st NN (X : Int)).length = NN := bestL_length _ _ _ _ _ _
    have u1 : IntKind.i64.wrap ((X : Int) + 1) = ((X + 1 : Nat) : Int) := wrap_id (by omega) (by omega)
    have u2 : IntKind.i64.wrap ((X : Int) + s.long) = X + s.long := wrap_id (by omega) (by omega)
    have u3 : IntKind.i64.wrap ((X : Int) + s.long + s.across) = ((X + st : Nat) : Int) := (wrap_id (by omega) (by omega)).trans (by omega)
    have g1 : nth (bestL f n L st NN (X : Int)) (X + 1) = bst f n L st (X + 1) := by rw [bestL_nth (by omega), if_pos (by omega)]
    have g2 : nth (bestL f n L st NN (X : Int)) (X + st) = bst f n L st (X + st) := by rw [bestL_nth (by omega), if_pos (by omega)]
    have hfle : ∀ x, x + L ≤ n → f x ≤ 301 := fun x hx => by rw [hf]; exact hblk x (by omega)
    have b1 := bst_le (f := f) (n := n) (long := L) (step := st) (c := 301) (by omega) hfle (X + 1)
    have b2 := bst_le (f := f) (n := n) (long := L) (step := st) (c := 301) (by omega) hfle (X + st)
    have b3 := hfle X (by omega)
    have hfX : f X = (blockI v s X).length := by rw [hf]
    have u4 : IntKind.i64.wrap (((blockI v s X).length : Int) + (bst f n L st (X + st) : Int)) = (blockI v s X).length + bst f n L st (X + st) := wrap_id (by omega) (by omega)
    have u5 : IntKind.i64.wrap ((X : Int) - 1) = X - 1 := wrap_id (by omega) (by omega)
    have q1 : (X + 1 < NN) = True := eq_true (by omega)
    have q2 : (X + st < NN) = True := eq_true (by omega)
    have q3 : (X < NN) = True := eq_true (by omega)
    simp (maxSteps := 2000000) only [vcA, ↓vcP, ↓reduceIte, reduceCtorEq, Nat.reduceAdd, Nat.reduceMul, Nat.reduceSub, Nat.reduceLT, Nat.reduceLeDiff, Nat.reduceEqDiff, Nat.reduceBEq, Nat.reduceBNe, Nat.reduceGT, Nat.reduceDiv, Nat.reduceMod, Int.reduceAdd, Int.reduceSub, Int.reduceNeg, Int.reduceLT, Int.reduceLE, Int.reduceEq, Int.reduceToNat, fA, u1, u2, u3, u4, u5, g1, g2, hlenL, iR, q1, q2, q3]
    repeat (first | refine ⟨by kernel_rfl, ?_⟩ | refine ⟨⟨by kernel_rfl, by kernel_rfl⟩, ?_⟩ | refine ⟨⟨by kernel_rfl, by kernel_rfl, by kernel_rfl⟩, ?_⟩ | refine ⟨⟨by kernel_rfl, by kernel_rfl, by kernel_rfl, by kernel_rfl⟩, ?_⟩ | refine ⟨⟨by kernel_rfl, by kernel_rfl, by kernel_rfl, by kernel_rfl, by kernel_rfl⟩, ?_⟩ | refine ⟨⟨by kernel_rfl, by kernel_rfl, by kernel_rfl, by kernel_rfl, by kernel_rfl, by kernel_rfl⟩, ?_⟩ | refine ⟨⟨by kernel_rfl, by kernel_rfl, by kernel_rfl, by kernel_rfl, by kernel_rfl, by kernel_rfl, by kernel_rfl⟩, ?_⟩ | refine ⟨⟨by kernel_rfl, by kernel_rfl, by kernel_rfl, by kernel_rfl, by kernel_rfl, by kernel_rfl, by kernel_rfl, by kernel_rfl⟩, ?_⟩ | refine ⟨⟨by kernel_rfl, by kernel_rfl, by kernel_rfl, by kernel_rfl, by kernel_rfl, by kernel_rfl, by kernel_rfl, by kernel_rfl, by kernel_rfl⟩, ?_⟩ | refine ⟨⟨by kernel_rfl, by kernel_rfl, by kernel_rfl, by kernel_rfl, by kernel_rfl, by kernel_rfl, by kernel_rfl, by kernel_rfl, by kernel_rfl, by kernel_rfl⟩, ?_⟩ | refine ⟨⟨by kernel_rfl, by kernel_rfl, by kernel_rfl, by kernel_rfl, by kernel_rfl, by kernel_rfl, by kernel_rfl, by kernel_rfl, by kernel_rfl, by kernel_rfl, by kernel_rfl⟩, ?_⟩ | refine ⟨⟨by kernel_rfl, by kernel_rfl, by kernel_rfl, by kernel_rfl, by kernel_rfl, by kernel_rfl, by kernel_rfl, by kernel_rfl, by kernel_rfl, by kernel_rfl, by kernel_rfl, by kernel_rfl⟩, ?_⟩ | refine ⟨⟨by kernel_rfl, by kernel_rfl, by kernel_rfl, by kernel_rfl, by kernel_rfl, by kernel_rfl, by kernel_rfl, by kernel_rfl, by kernel_rfl, by kernel_rfl, by kernel_rfl, by kernel_rfl, by kernel_rfl⟩, ?_⟩)
    refine hB _ ⟨(X : Int) - 1, by omega, by omega⟩ [] (by simp only; omega) rfl ?_
    simp (maxSteps := 2000000) only [enA, ↓enP, Nat.reduceAdd, Nat.reduceMul, Nat.reduceSub, Nat.reduceLT, Nat.reduceLeDiff, Nat.reduceEqDiff, Nat.reduceBEq, ↓reduceIte, reduceCtorEq, fA]
    have eb : max ((bst f n L st (X + 1) : Nat) : Int) ((blockI v s X).length + (bst f n L st (X + st) : Nat)) = (bst f n L st X : Nat) := by
      rw [bst_step (x := X) (by omega) (by omega) (by omega), ← hfX]
      omega
    refine ⟨?_, blkF_set (by omega)⟩
    rw [← bestL_set, List.map_set, eb, nth_map iR _ _ (by rw [hlenL]; omega)]
    rfl
  · have hM : mostI v s = mostG (blockI v s) n L st 0 := by unfold mostI; rw [← hn, ← hL, ← hst2]
    have hMle : (mostI v s).length ≤ 301 * (n + 1) := by rw [hM]; exact mostG_le (by omega) (fun x hx => hblk x (by omega)) 0
    have hlenL : (bestL f n L st NN x).length = NN := bestL_length _ _ _ _ _ _
    refine goC_loop (α := {q : Nat × List (Int × Int) // q.1 ≤ n + st ∧ mostI v s = q.2 ++ mostG (blockI v s) n L st q.1}) (fun q => ⟨[(3, .ptr 16 0), (4, .ob 256 q.1.2.length), (5, .v (.int .i64 n)), (6, .ob 128 NN), (7, .mp 144), (9, .v (.int .i64 q.1.1))], [(16, .box 27 [.v (.int .i64 s.long), .v (.int .i64 s.wide), .v (.int .i64 s.kerf), .v (.int .i64 s.across)]),
      (128, .row 3 1 ((bestL f n L st NN x).map iR) false), (144, .map .i64 (blkF v s x)), (256, .row 42 2 (q.1.2.map plcR) false)]⟩) (fun q => n + st + 1 - q.1.1) ⟨(0, []), by omega, by rw [hM]; rfl⟩ [none] ?_ ?_
    · simp (maxSteps := 2000000) only [enA, ↓enP, Nat.reduceAdd, Nat.reduceMul, Nat.reduceSub, Nat.reduceLT, Nat.reduceLeDiff, Nat.reduceEqDiff, Nat.reduceBEq, ↓reduceIte, reduceCtorEq, fA]
      rfl
    intro q B2 hB2
    obtain ⟨⟨X, acc⟩, hX, hinv⟩ := q
    simp only at hX hinv
    have u2 : IntKind.i64.wrap ((X : Int) + s.long) = X + s.long := wrap_id (by omega) (by omega)
    have u3 : IntKind.i64.wrap ((X : Int) + s.long + s.across) = ((X + st : Nat) : Int) := (wrap_id (by omega) (by omega)).trans (by omega)
    by_cases hc : X + L ≤ n
    · have qc : ((X : Int) + s.long ≤ n) = True := eq_true (by omega)
      have gX : blkF v s x X = some (.sl 1 ((blockI v s X).map iR)) := blkF_get (by omega) (by omega)
      have g1 : nth (bestL f n L st NN x) X = bst f n L st X := by rw [bestL_nth (by omega), if_pos (by omega)]
      have g2 : nth (bestL f n L st NN x) (X + st) = bst f n L st (X + st) := by rw [bestL_nth (by omega), if_pos (by omega)]
      have hfle : ∀ x, x + L ≤ n → f x ≤ 301 := fun x hx => by rw [hf]; exact hblk x (by omega)
      have b2 := bst_le (f := f) (n := n) (long := L) (step := st) (c := 301) (by omega) hfle (X + st)
      have b3 := hfle X (by omega)
      have hfX : f X = (blockI v s X).length := by rw [hf]
      have u4 : IntKind.i64.wrap (((blockI v s X).length : Int) + (bst f n L st (X + st) : Int)) = (blockI v s X).length + bst f n L st (X + st) := wrap_id (by omega) (by omega)
      have q2 : (X + st < NN) = True := eq_true (by omega)
      have q3 : (X < NN) = True := eq_true (by omega)
      have u1 : IntKind.i64.wrap ((X : Int) + 1) = ((X + 1 : Nat) : Int) := wrap_id (by omega) (by omega)
      have hms := mostG_step (f := blockI v s) (n := n) (long := L) (step := st) (x := X) (by omega) (by omega) hc
      rw [← hf] at hms
      have e3 : (X : Int) + (s.long + s.across) = ((X + st : Nat) : Int) := by omega
      have u5 : IntKind.i64.wrap (s.long + s.across) = s.long + s.across := wrap_id (by omega) (by omega)
      have u6 : IntKind.i64.wrap ((X : Int) + (s.long + s.across)) = ((X + st : Nat) : Int) := by rw [e3]; exact wrap_id (by omega) (by omega)
      have hskip : ((blockI v s X).length + bst f n L st (X + st) < bst f n L st X ∨ (blockI v s X).length = 0) → mostI v s = acc ++ mostG (blockI v s) n L st (X + 1) := fun h => by rw [hinv, hms, if_pos h]
      by_cases hA : (blockI v s X).length + bst f n L st (X + st) < bst f n L st X
      · have qa : (((blockI v s X).length : Int) + (bst f n L st (X + st) : Int) < (bst f n L st X : Int)) = True := eq_true (by omega)
        simp (maxSteps := 2000000) only [vcA, ↓vcP, ↓reduceIte, reduceCtorEq, Nat.reduceAdd, Nat.reduceMul, Nat.reduceSub, Nat.reduceLT, Nat.reduceLeDiff, Nat.reduceEqDiff, Nat.reduceBEq, Nat.reduceBNe, Nat.reduceGT, Nat.reduceDiv, Nat.reduceMod, Int.reduceAdd, Int.reduceSub, Int.reduceNeg, Int.reduceLT, Int.reduceLE, Int.reduceEq, Int.reduceToNat, fA, u1, u2, u3, u4, g1, g2, gX, hlenL, iR, q2, q3, qc, qa]
        repeat (first | refine ⟨by kernel_rfl, ?_⟩ | refine ⟨⟨by kernel_rfl, by kernel_rfl⟩, ?_⟩ | refine ⟨⟨by kernel_rfl, by kernel_rfl, by kernel_rfl⟩, ?_⟩ | refine ⟨⟨by kernel_rfl, by kernel_rfl, by kernel_rfl, by kernel_rfl⟩, ?_⟩ | refine ⟨⟨by kernel_rfl, by kernel_rfl, by kernel_rfl, by kernel_rfl, by kernel_rfl⟩, ?_⟩ | refine ⟨⟨by kernel_rfl, by kernel_rfl, by kernel_rfl, by kernel_rfl, by kernel_rfl, by kernel_rfl⟩, ?_⟩ | refine ⟨⟨by kernel_rfl, by kernel_rfl, by kernel_rfl, by kernel_rfl, by kernel_rfl, by kernel_rfl, by kernel_rfl⟩, ?_⟩ | refine ⟨⟨by kernel_rfl, by kernel_rfl, by kernel_rfl, by kernel_rfl, by kernel_rfl, by kernel_rfl, by kernel_rfl, by kernel_rfl⟩, ?_⟩ | refine ⟨⟨by kernel_rfl, by kernel_rfl, by kernel_rfl, by kernel_rfl, by kernel_rfl, by kernel_rfl, by kernel_rfl, by kernel_rfl, by kernel_rfl⟩, ?_⟩ | refine ⟨⟨by kernel_rfl, by kernel_rfl, by kernel_rfl, by kernel_rfl, by kernel_rfl, by kernel_rfl, by kernel_rfl, by kernel_rfl, by kernel_rfl, by kernel_rfl⟩, ?_⟩ | refine ⟨⟨by kernel_rfl, by kernel_rfl, by kernel_rfl, by kernel_rfl, by kernel_rfl, by kernel_rfl, by kernel_rfl, by kernel_rfl, by kernel_rfl, by kernel_rfl, by kernel_rfl⟩, ?_⟩ | refine ⟨⟨by kernel_rfl, by kernel_rfl, by kernel_rfl, by kernel_rfl, by kernel_rfl, by kernel_rfl, by kernel_rfl, by kernel_rfl, by kernel_rfl, by kernel_rfl, by kernel_rfl, by kernel_rfl⟩, ?_⟩ | refine ⟨⟨by kernel_rfl, by kernel_rfl, by kernel_rfl, by kernel_rfl, by kernel_rfl, by kernel_rfl, by kernel_rfl, by kernel_rfl, by kernel_rfl, by kernel_rfl, by kernel_rfl, by kernel_rfl, by kernel_rfl⟩, ?_⟩)
        refine hB2 _ ⟨(X + 1, acc), by omega, hskip (.inl hA)⟩ [some 256] (by simp only; omega) rfl ?_
        simp (maxSteps := 2000000) only [enA, ↓enP, Nat.reduceAdd, Nat.reduceMul, Nat.reduceSub, Nat.reduceLT, Nat.reduceLeDiff, Nat.reduceEqDiff, Nat.reduceBEq, ↓reduceIte, reduceCtorEq, fA]
      have qa : (((blockI v s X).length : Int) + (bst f n L st (X + st) : Int) < (bst f n L st X : Int)) = False := eq_false (by omega)
      by_cases hBz : (blockI v s X).length = 0
      · have qb : (((blockI v s X).length : Int) == 0) = true := by rw [hBz]; rfl
        simp (maxSteps := 2000000) only [vcA, ↓vcP, ↓reduceIte, reduceCtorEq, Nat.reduceAdd, Nat.reduceMul, Nat.reduceSub, Nat.reduceLT, Nat.reduceLeDiff, Nat.reduceEqDiff, Nat.reduceBEq, Nat.reduceBNe, Nat.reduceGT, Nat.reduceDiv, Nat.reduceMod, Int.reduceAdd, Int.reduceSub, Int.reduceNeg, Int.reduceLT, Int.reduceLE, Int.reduceEq, Int.reduceToNat, fA, u1, u2, u3, u4, g1, g2, gX, hlenL, iR, q2, q3, qc, qa, qb]
        repeat (first | refine ⟨by kernel_rfl, ?_⟩ | refine ⟨⟨by kernel_rfl, by kernel_rfl⟩, ?_⟩ | refine ⟨⟨by kernel_rfl, by kernel_rfl, by kernel_rfl⟩, ?_⟩ | refine ⟨⟨by kernel_rfl, by kernel_rfl, by kernel_rfl, by kernel_rfl⟩, ?_⟩ | refine ⟨⟨by kernel_rfl, by kernel_rfl, by kernel_rfl, by kernel_rfl, by kernel_rfl⟩, ?_⟩ | refine ⟨⟨by kernel_rfl, by kernel_rfl, by kernel_rfl, by kernel_rfl, by kernel_rfl, by kernel_rfl⟩, ?_⟩ | refine ⟨⟨by kernel_rfl, by kernel_rfl, by kernel_rfl, by kernel_rfl, by kernel_rfl, by kernel_rfl, by kernel_rfl⟩, ?_⟩ | refine ⟨⟨by kernel_rfl, by kernel_rfl, by kernel_rfl, by kernel_rfl, by kernel_rfl, by kernel_rfl, by kernel_rfl, by kernel_rfl⟩, ?_⟩ | refine ⟨⟨by kernel_rfl, by kernel_rfl, by kernel_rfl, by kernel_rfl, by kernel_rfl, by kernel_rfl, by kernel_rfl, by kernel_rfl, by kernel_rfl⟩, ?_⟩ | refine ⟨⟨by kernel_rfl, by kernel_rfl, by kernel_rfl, by kernel_rfl, by kernel_rfl, by kernel_rfl, by kernel_rfl, by kernel_rfl, by kernel_rfl, by kernel_rfl⟩, ?_⟩ | refine ⟨⟨by kernel_rfl, by kernel_rfl, by kernel_rfl, by kernel_rfl, by kernel_rfl, by kernel_rfl, by kernel_rfl, by kernel_rfl, by kernel_rfl, by kernel_rfl, by kernel_rfl⟩, ?_⟩ | refine ⟨⟨by kernel_rfl, by kernel_rfl, by kernel_rfl, by kernel_rfl, by kernel_rfl, by kernel_rfl, by kernel_rfl, by kernel_rfl, by kernel_rfl, by kernel_rfl, by kernel_rfl, by kernel_rfl⟩, ?_⟩ | refine ⟨⟨by kernel_rfl, by kernel_rfl, by kernel_rfl, by kernel_rfl, by kernel_rfl, by kernel_rfl, by kernel_rfl, by kernel_rfl, by kernel_rfl, by kernel_rfl, by kernel_rfl, by kernel_rfl, by kernel_rfl⟩, ?_⟩)
        refine hB2 _ ⟨(X + 1, acc), by omega, hskip (.inr hBz)⟩ [some 256] (by simp only; omega) rfl ?_
        simp (maxSteps := 2000000) only [enA, ↓enP, Nat.reduceAdd, Nat.reduceMul, Nat.reduceSub, Nat.reduceLT, Nat.reduceLeDiff, Nat.reduceEqDiff, Nat.reduceBEq, ↓reduceIte, reduceCtorEq, fA]
      have qb : (((blockI v s X).length : Int) == 0) = false := beq_eq_false_iff_ne.2 (by omega)
      simp (maxSteps := 2000000) only [vcA, ↓vcP, ↓reduceIte, reduceCtorEq, Nat.reduceAdd, Nat.reduceMul, Nat.reduceSub, Nat.reduceLT, Nat.reduceLeDiff, Nat.reduceEqDiff, Nat.reduceBEq, Nat.reduceBNe, Nat.reduceGT, Nat.reduceDiv, Nat.reduceMod, Int.reduceAdd, Int.reduceSub, Int.reduceNeg, Int.reduceLT, Int.reduceLE, Int.reduceEq, Int.reduceToNat, fA, u1, u2, u3, u4, g1, g2, gX, hlenL, iR, q2, q3, qc, qa, qb]
      repeat (first | refine ⟨by kernel_rfl, ?_⟩ | refine ⟨⟨by kernel_rfl, by kernel_rfl⟩, ?_⟩ | refine ⟨⟨by kernel_rfl, by kernel_rfl, by kernel_rfl⟩, ?_⟩ | refine ⟨⟨by kernel_rfl, by kernel_rfl, by kernel_rfl, by kernel_rfl⟩, ?_⟩ | refine ⟨⟨by kernel_rfl, by kernel_rfl, by kernel_rfl, by kernel_rfl, by kernel_rfl⟩, ?_⟩ | refine ⟨⟨by kernel_rfl, by kernel_rfl, by kernel_rfl, by kernel_rfl, by kernel_rfl, by kernel_rfl⟩, ?_⟩ | refine ⟨⟨by kernel_rfl, by kernel_rfl, by kernel_rfl, by kernel_rfl, by kernel_rfl, by kernel_rfl, by kernel_rfl⟩, ?_⟩ | refine ⟨⟨by kernel_rfl, by kernel_rfl, by kernel_rfl, by kernel_rfl, by kernel_rfl, by kernel_rfl, by kernel_rfl, by kernel_rfl⟩, ?_⟩ | refine ⟨⟨by kernel_rfl, by kernel_rfl, by kernel_rfl, by kernel_rfl, by kernel_rfl, by kernel_rfl, by kernel_rfl, by kernel_rfl, by kernel_rfl⟩, ?_⟩ | refine ⟨⟨by kernel_rfl, by kernel_rfl, by kernel_rfl, by kernel_rfl, by kernel_rfl, by kernel_rfl, by kernel_rfl, by kernel_rfl, by kernel_rfl, by kernel_rfl⟩, ?_⟩ | refine ⟨⟨by kernel_rfl, by kernel_rfl, by kernel_rfl, by kernel_rfl, by kernel_rfl, by kernel_rfl, by kernel_rfl, by kernel_rfl, by kernel_rfl, by kernel_rfl, by kernel_rfl⟩, ?_⟩ | refine ⟨⟨by kernel_rfl, by kernel_rfl, by kernel_rfl, by kernel_rfl, by kernel_rfl, by kernel_rfl, by kernel_rfl, by kernel_rfl, by kernel_rfl, by kernel_rfl, by kernel_rfl, by kernel_rfl⟩, ?_⟩ | refine ⟨⟨by kernel_rfl, by kernel_rfl, by kernel_rfl, by kernel_rfl, by kernel_rfl, by kernel_rfl, by kernel_rfl, by kernel_rfl, by kernel_rfl, by kernel_rfl, by kernel_rfl, by kernel_rfl, by kernel_rfl⟩, ?_⟩)
      rw [if_neg (by omega)] at hms
      obtain ⟨bl, hbl⟩ : ∃ bl, bl = blockI v s X := ⟨_, rfl⟩
      rw [← hbl] at hms gX hBz qb hfX ⊢
      have hinv2 : mostI v s = acc ++ bl.map (fun y => ((X : Int), y)) ++ mostG (blockI v s) n L st (X + st) := by rw [hinv, hms, List.append_assoc]
      have hacc : acc.length + bl.length ≤ 301 * (n + 1) := by
        rw [hinv2] at hMle
        simp only [List.length_append, List.length_map] at hMle
        omega
      refine goC_loop (α := {j : Nat // j ≤ bl.length}) (fun j => ⟨[(3, .ptr 16 0), (4, .ob 592 (acc ++ (bl.take j.1).map (fun y => ((X : Int), y))).length), (5, .v (.int .i64 n)), (6, .ob 128 NN), (7, .mp 144), (9, .v (.int .i64 X)), (100, .sl 1 (bl.map iR)), (101, .v (.int .i64 bl.length)), (102, .v (.int .i64 j.1))],
        [(16, .box 27 [.v (.int .i64 s.long), .v (.int .i64 s.wide), .v (.int .i64 s.kerf), .v (.int .i64 s.across)]), (128, .row 3 1 ((bestL f n L st NN x).map iR) false), (144, .map .i64 (blkF v s x)), (592, .row 42 2 ((acc ++ (bl.take j.1).map (fun y => ((X : Int), y))).map plcR) false)]⟩) (fun j => bl.length - j.1) ⟨0, by omega⟩ [some 256] ?_ ?_
      · simp (maxSteps := 2000000) only [enA, ↓enP, Nat.reduceAdd, Nat.reduceMul, Nat.reduceSub, Nat.reduceLT, Nat.reduceLeDiff, Nat.reduceEqDiff, Nat.reduceBEq, ↓reduceIte, reduceCtorEq, fA]
        simp
      intro j B3 hB3
      obtain ⟨j, hj⟩ := j
      have htl : (bl.take j).length = j := by simp; omega
      have hlen : (acc ++ (bl.take j).map (fun y => ((X : Int), y))).length = acc.length + j := by rw [List.length_append, List.length_map, htl]
      have hml : (acc ++ (bl.take j).map (fun y => ((X : Int), y))).length + 1 ≤ 40000 := by rw [hlen]; omega
      simp (maxSteps := 2000000) only [vcA, ↓vcP, ↓reduceIte, reduceCtorEq, Nat.reduceAdd, Nat.reduceMul, Nat.reduceSub, Nat.reduceLT, Nat.reduceLeDiff, Nat.reduceEqDiff, Nat.reduceBEq, Nat.reduceBNe, Nat.reduceGT, Nat.reduceDiv, Nat.reduceMod, Int.reduceAdd, Int.reduceSub, Int.reduceNeg, Int.reduceLT, Int.reduceLE, Int.reduceEq, Int.reduceToNat, fA, iR, u3, u5, u6]
      refine ⟨fun h4 => ⟨h4, fun _ => ⟨h4, fun _ => ⟨⟨by omega, Nat.le_trans hml (by simp only [maxLen]; omega)⟩, fun _ => hB3 _ ⟨j + 1, by omega⟩ [some 696] (by simp only; omega) rfl ?_⟩⟩⟩, fun h4 => hB2 _ ⟨(X + st, acc ++ bl.map (fun y => ((X : Int), y))), by simp only; omega, hinv2⟩ [some 592] (by simp only; omega) rfl ?_⟩
      · simp (maxSteps := 2000000) only [enA, ↓enP, Nat.reduceAdd, Nat.reduceMul, Nat.reduceSub, Nat.reduceLT, Nat.reduceLeDiff, Nat.reduceEqDiff, Nat.reduceBEq, ↓reduceIte, reduceCtorEq, fA]
        rw [wrap_id (by omega) (by omega), take_nth h4]
        simp [plcR, htl]
        omega
      · have : j = bl.length := by omega
        subst this
        rw [List.take_length]
        simp (maxSteps := 2000000) only [enA, ↓enP, Nat.reduceAdd, Nat.reduceMul, Nat.reduceSub, Nat.reduceLT, Nat.reduceLeDiff, Nat.reduceEqDiff, Nat.reduceBEq, ↓reduceIte, reduceCtorEq, fA]
    · have qc : ((X : Int) + s.long ≤ n) = False := eq_false (by omega)
      simp (maxSteps := 2000000) only [vcA, ↓vcP, ↓reduceIte, reduceCtorEq, Nat.reduceAdd, Nat.reduceMul, Nat.reduceSub, Nat.reduceLT, Nat.reduceLeDiff, Nat.reduceEqDiff, Nat.reduceBEq, Nat.reduceBNe, Nat.reduceGT, Nat.reduceDiv, Nat.reduceMod, Int.reduceAdd, Int.reduceSub, Int.reduceNeg, Int.reduceLT, Int.reduceLE, Int.reduceEq, Int.reduceToNat, fA, u2, qc]
      refine hR _ (fin_of1 [some 256] ?_)
      have he : mostI v s = acc := by rw [hinv, mostG_end (by omega), List.append_nil]
      rw [he]
      simp (maxSteps := 2000000) only [enA, ↓enP, Nat.reduceAdd, Nat.reduceMul, Nat.reduceSub, Nat.reduceLT, Nat.reduceLeDiff, Nat.reduceEqDiff, Nat.reduceBEq, ↓reduceIte, reduceCtorEq, fA]
end Go.Proofs.Ytafpicjnccffgaa.Ab
namespace Go.Proofs.Ytafpicjnccffgaa.Ab
open Go Go.RowKit
set_option linter.unusedVariables false
set_option linter.unusedSimpArgs false
set_option maxRecDepth 100000
/-- An opened blade's view. -/
def sureB (b : Bl) : Vw := sureV (newLow b) (newTop b) b.cracks
def mostL (b : Bl) (s : Sw) : List (Int × Int) := if openErr b s = 0 then mostI (sureB b) s else []
theorem mostB_spec (b : Bl) (s : Sw) (h1 : b.bottom.length < 1000000) (h2 : b.top.length < 1000000) : SpecF Try.prog 22 [.agg [.sl 2 (b.bottom.map spR), .sl 2 (b.top.map spR), .v (.int .i64 b.bend), .sl 6 (b.cracks.map crR)], .agg [.v (.int .i64 s.long), .v (.int .i64 s.wide), .v (.int .i64 s.kerf), .v (.int .i64 s.across)]]
    (.tup [.ob 0 (mostL b s).length, .v (.int .i64 (openErr b s))]) [.row 42 2 ((mostL b s).map plcR) false] := by
  refine spec_go (N := 21) (rs := [.tmp 4, .tmp 5]) (eq := eqs) rfl rfl fun_22 rfl (by kernel_rfl) (by kernel_rfl) (by simp) (by simp) (by simp) (by simp) fun R hR => ?_
  simp (maxSteps := 2000000) only [vcA, ↓vcP, ↓reduceIte, reduceCtorEq, Nat.reduceAdd, Nat.reduceMul, Nat.reduceSub, Nat.reduceLT, Nat.reduceLeDiff, Nat.reduceEqDiff, Nat.reduceBEq, Nat.reduceBNe, Nat.reduceGT, Nat.reduceDiv, Nat.reduceMod, Int.reduceAdd, Int.reduceSub, Int.reduceNeg, Int.reduceLT, Int.reduceLE, Int.reduceEq, Int.reduceToNat, fA]
  refine onF_call (openB_spec b s h1 h2) [] [] [] ?_ ?_
  · simp (maxSteps := 2000000) only [okA, ↓okP, Nat.reduceAdd, Nat.reduceMul, Nat.reduceSub, Nat.reduceLT, Nat.reduceLeDiff, Nat.reduceEqDiff, Nat.reduceBEq, ↓reduceIte, reduceCtorEq]
  simp (maxSteps := 2000000) only [vcA, ↓vcP, ↓reduceIte, reduceCtorEq, Nat.reduceAdd, Nat.reduceMul, Nat.reduceSub, Nat.reduceLT, Nat.reduceLeDiff, Nat.reduceEqDiff, Nat.reduceBEq, Nat.reduceBNe, Nat.reduceGT, Nat.reduceDiv, Nat.reduceMod, Int.reduceAdd, Int.reduceSub, Int.reduceNeg, Int.reduceLT, Int.reduceLE, Int.reduceEq, Int.reduceToNat, fA]
  refine ⟨fun h3 => hR _ (fin_of1 [none] ?_), fun h3 => ?_⟩
  · have h4 : openErr b s ≠ 0 := by simpa using h3
    have e1 : mostL b s = [] := by unfold mostL; rw [if_neg h4]
    rw [e1]
    simp (maxSteps := 2000000) only [enA, ↓enP, Nat.reduceAdd, Nat.reduceMul, Nat.reduceSub, Nat.reduceLT, Nat.reduceLeDiff, Nat.reduceEqDiff, Nat.reduceBEq, ↓reduceIte, reduceCtorEq, fA]
  have h4 : openErr b s = 0 := by simpa using h3
  obtain ⟨hN, hS⟩ := open_ok h4
  obtain ⟨n0, o1, o2, l1, l2, g1, g2, g3, _⟩ := new_ok hN
  rw [n0]
  refine onF_call (sure_spec b (newLow b) (newTop b) (by omega) (by omega) (by omega)) [56, 57] [] [] ?_ ?_
  · simp (maxSteps := 2000000) only [okA, ↓okP, Nat.reduceAdd, Nat.reduceMul, Nat.reduceSub, Nat.reduceLT, Nat.reduceLeDiff, Nat.reduceEqDiff, Nat.reduceBEq, ↓reduceIte, reduceCtorEq]
  simp (maxSteps := 2000000) only [vcA, ↓vcP, ↓reduceIte, reduceCtorEq, Nat.reduceAdd, Nat.reduceMul, Nat.reduceSub, Nat.reduceLT, Nat.reduceLeDiff, Nat.reduceEqDiff, Nat.reduceBEq, Nat.reduceBNe, Nat.reduceGT, Nat.reduceDiv, Nat.reduceMod, Int.reduceAdd, Int.reduceSub, Int.reduceNeg, Int.reduceLT, Int.reduceLE, Int.reduceEq, Int.reduceToNat, fA]
  repeat (first | refine ⟨by kernel_rfl, ?_⟩ | refine ⟨⟨by kernel_rfl, by kernel_rfl⟩, ?_⟩ | refine ⟨⟨by kernel_rfl, by kernel_rfl, by kernel_rfl⟩, ?_⟩ | refine ⟨⟨by kernel_rfl, by kernel_rfl, by kernel_rfl, by kernel_rfl⟩, ?_⟩ | refine ⟨⟨by kernel_rfl, by kernel_rfl, by kernel_rfl, by kernel_rfl, by kernel_rfl⟩, ?_⟩ | refine ⟨⟨by kernel_rfl, by kernel_rfl, by kernel_rfl, by kernel_rfl, by kernel_rfl, by kernel_rfl⟩, ?_⟩ | refine ⟨⟨by kernel_rfl, by kernel_rfl, by kernel_rfl, by kernel_rfl, by kernel_rfl, by kernel_rfl, by kernel_rfl⟩, ?_⟩ | refine ⟨⟨by kernel_rfl, by kernel_rfl, by kernel_rfl, by kernel_rfl, by kernel_rfl, by kernel_rfl, by kernel_rfl, by kernel_rfl⟩, ?_⟩ | refine ⟨⟨by kernel_rfl, by kernel_rfl, by kernel_rfl, by kernel_rfl, by kernel_rfl, by kernel_rfl, by kernel_rfl, by kernel_rfl, by kernel_rfl⟩, ?_⟩ | refine ⟨⟨by kernel_rfl, by kernel_rfl, by kernel_rfl, by kernel_rfl, by kernel_rfl, by kernel_rfl, by kernel_rfl, by kernel_rfl, by kernel_rfl, by kernel_rfl⟩, ?_⟩ | refine ⟨⟨by kernel_rfl, by kernel_rfl, by kernel_rfl, by kernel_rfl, by kernel_rfl, by kernel_rfl, by kernel_rfl, by kernel_rfl, by kernel_rfl, by kernel_rfl, by kernel_rfl⟩, ?_⟩ | refine ⟨⟨by kernel_rfl, by kernel_rfl, by kernel_rfl, by kernel_rfl, by kernel_rfl, by kernel_rfl, by kernel_rfl, by kernel_rfl, by kernel_rfl, by kernel_rfl, by kernel_rfl, by kernel_rfl⟩, ?_⟩ | refine ⟨⟨by kernel_rfl, by kernel_rfl, by kernel_rfl, by kernel_rfl, by kernel_rfl, by kernel_rfl, by kernel_rfl, by kernel_rfl, by kernel_rfl, by kernel_rfl, by kernel_rfl, by kernel_rfl, by kernel_rfl⟩, ?_⟩)
  refine onF_call (most_spec (sureV (newLow b) (newTop b) b.cracks) s (sure_ok hN) hS) [136, 137, 138] [] [] ?_ ?_
  · simp (maxSteps := 2000000) only [okA, ↓okP, Nat.reduceAdd, Nat.reduceMul, Nat.reduceSub, Nat.reduceLT, Nat.reduceLeDiff, Nat.reduceEqDiff, Nat.reduceBEq, ↓reduceIte, reduceCtorEq]
  simp (maxSteps := 2000000) only [vcA, ↓vcP, ↓reduceIte, reduceCtorEq, Nat.reduceAdd, Nat.reduceMul, Nat.reduceSub, Nat.reduceLT, Nat.reduceLeDiff, Nat.reduceEqDiff, Nat.reduceBEq, Nat.reduceBNe, Nat.reduceGT, Nat.reduceDiv, Nat.reduceMod, Int.reduceAdd, Int.reduceSub, Int.reduceNeg, Int.reduceLT, Int.reduceLE, Int.reduceEq, Int.reduceToNat, fA]
  repeat (first | refine ⟨by kernel_rfl, ?_⟩ | refine ⟨⟨by kernel_rfl, by kernel_rfl⟩, ?_⟩ | refine ⟨⟨by kernel_rfl, by kernel_rfl, by kernel_rfl⟩, ?_⟩ | refine ⟨⟨by kernel_rfl, by kernel_rfl, by kernel_rfl, by kernel_rfl⟩, ?_⟩ | refine ⟨⟨by kernel_rfl, by kernel_rfl, by kernel_rfl, by kernel_rfl, by kernel_rfl⟩, ?_⟩ | refine ⟨⟨by kernel_rfl, by kernel_rfl, by kernel_rfl, by kernel_rfl, by kernel_rfl, by kernel_rfl⟩, ?_⟩ | refine ⟨⟨by kernel_rfl, by kernel_rfl, by kernel_rfl, by kernel_rfl, by kernel_rfl, by kernel_rfl, by kernel_rfl⟩, ?_⟩ | refine ⟨⟨by kernel_rfl, by kernel_rfl, by kernel_rfl, by kernel_rfl, by kernel_rfl, by kernel_rfl, by kernel_rfl, by kernel_rfl⟩, ?_⟩ | refine ⟨⟨by kernel_rfl, by kernel_rfl, by kernel_rfl, by kernel_rfl, by kernel_rfl, by kernel_rfl, by kernel_rfl, by kernel_rfl, by kernel_rfl⟩, ?_⟩ | refine ⟨⟨by kernel_rfl, by kernel_rfl, by kernel_rfl, by kernel_rfl, by kernel_rfl, by kernel_rfl, by kernel_rfl, by kernel_rfl, by kernel_rfl, by kernel_rfl⟩, ?_⟩ | refine ⟨⟨by kernel_rfl, by kernel_rfl, by kernel_rfl, by kernel_rfl, by kernel_rfl, by kernel_rfl, by kernel_rfl, by kernel_rfl, by kernel_rfl, by kernel_rfl, by kernel_rfl⟩, ?_⟩ | refine ⟨⟨by kernel_rfl, by kernel_rfl, by kernel_rfl, by kernel_rfl, by kernel_rfl, by kernel_rfl, by kernel_rfl, by kernel_rfl, by kernel_rfl, by kernel_rfl, by kernel_rfl, by kernel_rfl⟩, ?_⟩ | refine ⟨⟨by kernel_rfl, by kernel_rfl, by kernel_rfl, by kernel_rfl, by kernel_rfl, by kernel_rfl, by kernel_rfl, by kernel_rfl, by kernel_rfl, by kernel_rfl, by kernel_rfl, by kernel_rfl, by kernel_rfl⟩, ?_⟩)
  refine hR _ (fin_of1 [some 152] ?_)
  have eL : mostL b s = mostI (sureV (newLow b) (newTop b) b.cracks) s := by unfold mostL; rw [if_pos h4]; rfl
  rw [eL, h4]
  simp (maxSteps := 2000000) only [enA, ↓enP, Nat.reduceAdd, Nat.reduceMul, Nat.reduceSub, Nat.reduceLT, Nat.reduceLeDiff, Nat.reduceEqDiff, Nat.reduceBEq, ↓reduceIte, reduceCtorEq, fA]
theorem grow_spec (n : Nat) (hn : n < 1000) : SpecF Try.prog 76 [.v (.slice none 0 0), .v (.int .i64 n)] (.ob 0 0) [.row 118 4 [] false] := by
  refine spec_go (N := 27) (rs := [.tmp 4]) (eq := eqs) rfl rfl fun_76 rfl (by kernel_rfl) (by kernel_rfl) (by simp) (by simp) (by simp) (by simp) fun R hR => ?_
  have e1 : IntKind.i64.wrap ((n : Int) - IntKind.i64.wrap 0) = n := by rw [show IntKind.i64.wrap 0 = 0 from rfl, wrap_id (by omega) (by omega)]; omega
  have x0 : ((n : Int) < 0) = False := eq_false (by omega)
  have e2 : IntKind.i64.wrap ((0 : Int) - 0) = 0 := rfl
  simp (maxSteps := 2000000) only [vcA, ↓vcP, ↓reduceIte, reduceCtorEq, Nat.reduceAdd, Nat.reduceMul, Nat.reduceSub, Nat.reduceLT, Nat.reduceLeDiff, Nat.reduceEqDiff, Nat.reduceBEq, Nat.reduceBNe, Nat.reduceGT, Nat.reduceDiv, Nat.reduceMod, Int.reduceAdd, Int.reduceSub, Int.reduceNeg, Int.reduceLT, Int.reduceLE, Int.reduceEq, Int.reduceToNat, fA, e1, x0, e2]
  refine ⟨fun h => ⟨⟨⟨.i64, rfl⟩, by omega, by simp only [maxLen]; omega⟩, fun _ => ?_⟩, fun h => hR _ (fin_of1 [none] ?_)⟩
  · refine onS_cut (n := 152) (e := 118) (sz := 4) (rows := List.replicate n [.v (.int .i64 0), .v (.int .i64 0), .v (.int .i64 0), .v (.int .i64 0)]) (kh := .i64) (hv := 0) (e' := 118) rfl rfl rfl (by omega) (by simp) elt_92 ?_
    simp (maxSteps := 2000000) only [vcA, ↓vcP, ↓reduceIte, reduceCtorEq, Nat.reduceAdd, Nat.reduceMul, Nat.reduceSub, Nat.reduceLT, Nat.reduceLeDiff, Nat.reduceEqDiff, Nat.reduceBEq, Nat.reduceBNe, Nat.reduceGT, Nat.reduceDiv, Nat.reduceMod, Int.reduceAdd, Int.reduceSub, Int.reduceNeg, Int.reduceLT, Int.reduceLE, Int.reduceEq, Int.reduceToNat, fA, e1, x0, e2]
    refine hR _ (fin_of1 [some 176] ?_)
    simp (maxSteps := 2000000) only [enA, ↓enP, Nat.reduceAdd, Nat.reduceMul, Nat.reduceSub, Nat.reduceLT, Nat.reduceLeDiff, Nat.reduceEqDiff, Nat.reduceBEq, ↓reduceIte, reduceCtorEq, fA]
  · simp (maxSteps := 2000000) only [enA, ↓enP, Nat.reduceAdd, Nat.reduceMul, Nat.reduceSub, Nat.reduceLT, Nat.reduceLeDiff, Nat.reduceEqDiff, Nat.reduceBEq, ↓reduceIte, reduceCtorEq, fA]
def spsR (l : List Spo) : List DV := [.sl 4 (l.map spoR)]
def lens (L : List (List Spo)) : Int := (L.flatten.length : Int)
theorem concat_spec (L : List (List Spo)) (h1 : L.length < 1000) (h2 : L.flatten.length < 1000) : SpecF Try.prog 55 [.sl 1 (L.map spsR)] (.ob 0 L.flatten.length) [.row 118 4 (L.flatten.map spoR) false] := by
  have hfl : ∀ i, ((L.take i).flatten).length ≤ L.flatten.length := fun i => by
    conv => rhs; rw [← List.take_append_drop i L, List.flatten_append, List.length_append]
    omega
  have hst : ∀ i, i < L.length → ((L.take (i + 1)).flatten).length = ((L.take i).flatten).length + (nth L i).length := fun i hi => by
    rw [take_nth hi, List.flatten_append, List.length_append]
    simp
  refine spec_go (N := 36) (rs := [.tmp 2]) (eq := eqs) rfl rfl fun_55 rfl (by kernel_rfl) (by kernel_rfl) (by simp) (by simp) (by simp) (by simp) fun R hR => ?_
  simp (maxSteps := 2000000) only [vcA, ↓vcP, ↓reduceIte, reduceCtorEq, Nat.reduceAdd, Nat.reduceMul, Nat.reduceSub, Nat.reduceLT, Nat.reduceLeDiff, Nat.reduceEqDiff, Nat.reduceBEq, Nat.reduceBNe, Nat.reduceGT, Nat.reduceDiv, Nat.reduceMod, Int.reduceAdd, Int.reduceSub, Int.reduceNeg, Int.reduceLT, Int.reduceLE, Int.reduceEq, Int.reduceToNat, fA]
  refine goC_loop (α := {i : Nat // i ≤ L.length}) (fun x => ⟨[(0, .sl 1 (L.map spsR)), (3, .v (.int .i64 ((L.take x.1).flatten.length : Int))), (9, .sl 1 (L.map spsR)), (10, .v (.int .i64 L.length)), (11, .v (.int .i64 x.1))], []⟩) (fun x => L.length - x.1) ⟨0, by omega⟩ [] ?_ ?_
  · simp (maxSteps := 2000000) only [enA, ↓enP, Nat.reduceAdd, Nat.reduceMul, Nat.reduceSub, Nat.reduceLT, Nat.reduceLeDiff, Nat.reduceEqDiff, Nat.reduceBEq, ↓reduceIte, reduceCtorEq, fA]
    exact ⟨rfl, rfl⟩
  intro x B hB
  obtain ⟨i, hi⟩ := x
  have hfi := hfl i
  by_cases hc : i < L.length
  · have hs := hst i hc
    have hfs := hfl (i + 1)
    have qc : (i < L.length) = True := eq_true hc
    have e1 : IntKind.i64.wrap (((L.take i).flatten.length : Int) + (nth L i).length) = ((L.take (i + 1)).flatten.length : Int) := by rw [wrap_id (by omega) (by omega)]; omega
    have e2 : (((L.take (i + 1)).flatten.length : Int) < 0) = False := eq_false (by omega)
    have e3 : IntKind.i64.wrap ((i : Int) + 1) = ((i + 1 : Nat) : Int) := wrap_id (by omega) (by omega)
    simp (maxSteps := 2000000) only [vcA, ↓vcP, ↓reduceIte, reduceCtorEq, Nat.reduceAdd, Nat.reduceMul, Nat.reduceSub, Nat.reduceLT, Nat.reduceLeDiff, Nat.reduceEqDiff, Nat.reduceBEq, Nat.reduceBNe, Nat.reduceGT, Nat.reduceDiv, Nat.reduceMod, Int.reduceAdd, Int.reduceSub, Int.reduceNeg, Int.reduceLT, Int.reduceLE, Int.reduceEq, Int.reduceToNat, fA, spsR, e1, e2, e3, qc]
    refine hB _ ⟨i + 1, by omega⟩ [] (by simp only; omega) rfl ?_
    simp (maxSteps := 2000000) only [enA, ↓enP, Nat.reduceAdd, Nat.reduceMul, Nat.reduceSub, Nat.reduceLT, Nat.reduceLeDiff, Nat.reduceEqDiff, Nat.reduceBEq, ↓reduceIte, reduceCtorEq, fA]
  · have qc : (i < L.length) = False := eq_false hc
    have : i = L.length := by omega
    subst this
    simp (maxSteps := 2000000) only [vcA, ↓vcP, ↓reduceIte, reduceCtorEq, Nat.reduceAdd, Nat.reduceMul, Nat.reduceSub, Nat.reduceLT, Nat.reduceLeDiff, Nat.reduceEqDiff, Nat.reduceBEq, Nat.reduceBNe, Nat.reduceGT, Nat.reduceDiv, Nat.reduceMod, Int.reduceAdd, Int.reduceSub, Int.reduceNeg, Int.reduceLT, Int.reduceLE, Int.reduceEq, Int.reduceToNat, fA, qc]
    rw [List.take_length]
    refine onF_call (grow_spec L.flatten.length h2) [] [] [] ?_ ?_
    · simp (maxSteps := 2000000) only [okA, ↓okP, Nat.reduceAdd, Nat.reduceMul, Nat.reduceSub, Nat.reduceLT, Nat.reduceLeDiff, Nat.reduceEqDiff, Nat.reduceBEq, ↓reduceIte, reduceCtorEq]
    simp (maxSteps := 2000000) only [vcA, ↓vcP, ↓reduceIte, reduceCtorEq, Nat.reduceAdd, Nat.reduceMul, Nat.reduceSub, Nat.reduceLT, Nat.reduceLeDiff, Nat.reduceEqDiff, Nat.reduceBEq, Nat.reduceBNe, Nat.reduceGT, Nat.reduceDiv, Nat.reduceMod, Int.reduceAdd, Int.reduceSub, Int.reduceNeg, Int.reduceLT, Int.reduceLE, Int.reduceEq, Int.reduceToNat, fA]
    refine goC_loop (α := {i : Nat // i ≤ L.length}) (fun x => ⟨[(6, .ob 136 (L.take x.1).flatten.length), (25, .sl 1 (L.map spsR)), (26, .v (.int .i64 L.length)), (27, .v (.int .i64 x.1))], [(136, .row 118 4 ((L.take x.1).flatten.map spoR) false)]⟩) (fun x => L.length - x.1) ⟨0, by omega⟩ [some 96] ?_ ?_
    · simp (maxSteps := 2000000) only [enA, ↓enP, Nat.reduceAdd, Nat.reduceMul, Nat.reduceSub, Nat.reduceLT, Nat.reduceLeDiff, Nat.reduceEqDiff, Nat.reduceBEq, ↓reduceIte, reduceCtorEq, fA]
      exact ⟨⟨rfl, rfl⟩, rfl⟩
    intro x B hB
    obtain ⟨i, hi⟩ := x
    have hfi := hfl i
    by_cases hc : i < L.length
    · have hs := hst i hc
      have hfs := hfl (i + 1)
      have qc : (i < L.length) = True := eq_true hc
      have e3 : IntKind.i64.wrap ((i : Int) + 1) = ((i + 1 : Nat) : Int) := wrap_id (by omega) (by omega)
      have hml : ((L.take i).flatten).length + (nth L i).length ≤ maxLen := by simp only [maxLen]; omega
      simp (maxSteps := 2000000) only [vcA, ↓vcP, ↓reduceIte, reduceCtorEq, Nat.reduceAdd, Nat.reduceMul, Nat.reduceSub, Nat.reduceLT, Nat.reduceLeDiff, Nat.reduceEqDiff, Nat.reduceBEq, Nat.reduceBNe, Nat.reduceGT, Nat.reduceDiv, Nat.reduceMod, Int.reduceAdd, Int.reduceSub, Int.reduceNeg, Int.reduceLT, Int.reduceLE, Int.reduceEq, Int.reduceToNat, fA, spsR, e3, qc]
      refine ⟨⟨by omega, hml⟩, fun _ => hB _ ⟨i + 1, by omega⟩ [some 216] (by simp only; omega) rfl ?_⟩
      simp (maxSteps := 2000000) only [enA, ↓enP, Nat.reduceAdd, Nat.reduceMul, Nat.reduceSub, Nat.reduceLT, Nat.reduceLeDiff, Nat.reduceEqDiff, Nat.reduceBEq, ↓reduceIte, reduceCtorEq, fA]
      refine ⟨by omega, ?_⟩
      rw [take_nth hc, List.flatten_append, List.map_append]
      simp
    · have qc : (i < L.length) = False := eq_false hc
      have : i = L.length := by omega
      subst this
      simp (maxSteps := 2000000) only [vcA, ↓vcP, ↓reduceIte, reduceCtorEq, Nat.reduceAdd, Nat.reduceMul, Nat.reduceSub, Nat.reduceLT, Nat.reduceLeDiff, Nat.reduceEqDiff, Nat.reduceBEq, Nat.reduceBNe, Nat.reduceGT, Nat.reduceDiv, Nat.reduceMod, Int.reduceAdd, Int.reduceSub, Int.reduceNeg, Int.reduceLT, Int.reduceLE, Int.reduceEq, Int.reduceToNat, fA, qc]
      rw [List.take_length]
      refine hR _ (fin_of1 [some 136] ?_)
      simp (maxSteps := 2000000) only [enA, ↓enP, Nat.reduceAdd, Nat.reduceMul, Nat.reduceSub, Nat.reduceLT, Nat.reduceLeDiff, Nat.reduceEqDiff, Nat.reduceBEq, ↓reduceIte, reduceCtorEq, fA]
end Go.Proofs.Ytafpicjnccffgaa.Ab
namespace Go.Proofs.Ytafpicjnccffgaa.Ab
open Go Go.RowKit
set_option linter.unusedVariables false
set_option linter.unusedSimpArgs false
set_option maxRecDepth 100000
/-- A view without one of the things that spoil it. -/
def dropV (v : Vw) (i : Nat) : Vw := { v with spoils := v.spoils.take i ++ v.spoils.drop (i + 1) }
def costsI (v : Vw) (s : Sw) (i : Nat) : Int := ((mostI (dropV v i) s).length : Int) - (mostI v s).length
def costsL (b : Bl) (s : Sw) : List Int := if openErr b s = 0 then (List.range b.cracks.length).map (costsI (sureB b) s) else []
theorem dropV_ok {v : Vw} (h : v.Ok) (i : Nat) : (dropV v i).Ok := by
  refine ⟨h.bottom, h.top, fun s hs => ?_, h.len, h.le, ?_⟩
  · have hs : s ∈ v.spoils.take i ++ v.spoils.drop (i + 1) := hs
    rcases List.mem_append.1 hs with h1 | h1
    · exact h.spoils s (List.mem_of_mem_take h1)
    · exact h.spoils s (List.mem_of_mem_drop h1)
  · have := h.sle
    show (v.spoils.take i ++ v.spoils.drop (i + 1)).length ≤ 100
    simp
    omega
theorem mostI_le {v : Vw} {s : Sw} (hv : v.Ok) (hs : sawOk s = true) : (mostI v s).length ≤ 30401 := by
  unfold sawOk at hs
  simp only [Bool.and_eq_true] at hs
  have s1 := betw1 hs.1.1
  have s3 := betw2 hs.2
  have := mostG_le (f := blockI v s) (n := v.bottom.length) (long := s.long.toNat) (step := stepN s) (c := 301) (by unfold stepN; omega) (fun x hx => blockI_len hv (by omega) hx) 0
  have h2 := hv.le
  unfold mostI
  omega
theorem costs_spec (b : Bl) (s : Sw) (h1 : b.bottom.length < 1000000) (h2 : b.top.length < 1000000) : SpecF Try.prog 25 [.agg [.sl 2 (b.bottom.map spR), .sl 2 (b.top.map spR), .v (.int .i64 b.bend), .sl 6 (b.cracks.map crR)], .agg [.v (.int .i64 s.long), .v (.int .i64 s.wide), .v (.int .i64 s.kerf), .v (.int .i64 s.across)]]
    (.tup [.ob 0 (costsL b s).length, .v (.int .i64 (openErr b s))]) [.row 3 1 ((costsL b s).map iR) false] := by
  refine spec_go (N := 56) (rs := [.tmp 4, .tmp 5]) (eq := eqs) rfl rfl fun_25 rfl (by kernel_rfl) (by kernel_rfl) (by simp) (by simp) (by simp) (by simp) fun R hR => ?_
  simp (maxSteps := 2000000) only [vcA, ↓vcP, ↓reduceIte, reduceCtorEq, Nat.reduceAdd, Nat.reduceMul, Nat.reduceSub, Nat.reduceLT, Nat.reduceLeDiff, Nat.reduceEqDiff, Nat.reduceBEq, Nat.reduceBNe, Nat.reduceGT, Nat.reduceDiv, Nat.reduceMod, Int.reduceAdd, Int.reduceSub, Int.reduceNeg, Int.reduceLT, Int.reduceLE, Int.reduceEq, Int.reduceToNat, fA]
  refine onF_call (openB_spec b s h1 h2) [] [] [] ?_ ?_
  · simp (maxSteps := 2000000) only [okA, ↓okP, Nat.reduceAdd, Nat.reduceMul, Nat.reduceSub, Nat.reduceLT, Nat.reduceLeDiff, Nat.reduceEqDiff, Nat.reduceBEq, ↓reduceIte, reduceCtorEq]
  simp (maxSteps := 2000000) only [vcA, ↓vcP, ↓reduceIte, reduceCtorEq, Nat.reduceAdd, Nat.reduceMul, Nat.reduceSub, Nat.reduceLT, Nat.reduceLeDiff, Nat.reduceEqDiff, Nat.reduceBEq, Nat.reduceBNe, Nat.reduceGT, Nat.reduceDiv, Nat.reduceMod, Int.reduceAdd, Int.reduceSub, Int.reduceNeg, Int.reduceLT, Int.reduceLE, Int.reduceEq, Int.reduceToNat, fA]
  refine ⟨fun h3 => hR _ (fin_of1 [none] ?_), fun h3 => ?_⟩
  · have h4 : openErr b s ≠ 0 := by simpa using h3
    have e1 : costsL b s = [] := by unfold costsL; rw [if_neg h4]
    rw [e1]
    simp (maxSteps := 2000000) only [enA, ↓enP, Nat.reduceAdd, Nat.reduceMul, Nat.reduceSub, Nat.reduceLT, Nat.reduceLeDiff, Nat.reduceEqDiff, Nat.reduceBEq, ↓reduceIte, reduceCtorEq, fA]
  have h4 : openErr b s = 0 := by simpa using h3
  obtain ⟨hN, hS⟩ := open_ok h4
  obtain ⟨n0, o1, o2, l1, l2, g1, g2, g3, _⟩ := new_ok hN
  rw [n0]
  refine onF_call (sure_spec b (newLow b) (newTop b) (by omega) (by omega) (by omega)) [56, 57] [] [] ?_ ?_
  · simp (maxSteps := 2000000) only [okA, ↓okP, Nat.reduceAdd, Nat.reduceMul, Nat.reduceSub, Nat.reduceLT, Nat.reduceLeDiff, Nat.reduceEqDiff, Nat.reduceBEq, ↓reduceIte, reduceCtorEq]
  simp (maxSteps := 2000000) only [vcA, ↓vcP, ↓reduceIte, reduceCtorEq, Nat.reduceAdd, Nat.reduceMul, Nat.reduceSub, Nat.reduceLT, Nat.reduceLeDiff, Nat.reduceEqDiff, Nat.reduceBEq, Nat.reduceBNe, Nat.reduceGT, Nat.reduceDiv, Nat.reduceMod, Int.reduceAdd, Int.reduceSub, Int.reduceNeg, Int.reduceLT, Int.reduceLE, Int.reduceEq, Int.reduceToNat, fA]
  have hok := sure_ok hN
  have eB : sureB b = sureV (newLow b) (newTop b) b.cracks := rfl
  rw [← eB] at hok ⊢
  have hlow : (sureB b).bottom.length = (newLow b).length := by simp [eB, sureV]
  have htop : (sureB b).top.length = (newTop b).length := by simp [eB, sureV]
  have hspo : (sureB b).spoils.length = b.cracks.length := by simp [eB, sureV]
  have eL : costsL b s = (List.range b.cracks.length).map (costsI (sureB b) s) := by unfold costsL; rw [if_pos h4]
  generalize hV : sureB b = V at *
  refine onF_call (most_spec V s hok hS) [136, 137, 138] [] [] ?_ ?_
  · simp (maxSteps := 2000000) only [okA, ↓okP, Nat.reduceAdd, Nat.reduceMul, Nat.reduceSub, Nat.reduceLT, Nat.reduceLeDiff, Nat.reduceEqDiff, Nat.reduceBEq, ↓reduceIte, reduceCtorEq]
  simp (maxSteps := 2000000) only [vcA, ↓vcP, ↓reduceIte, reduceCtorEq, Nat.reduceAdd, Nat.reduceMul, Nat.reduceSub, Nat.reduceLT, Nat.reduceLeDiff, Nat.reduceEqDiff, Nat.reduceBEq, Nat.reduceBNe, Nat.reduceGT, Nat.reduceDiv, Nat.reduceMod, Int.reduceAdd, Int.reduceSub, Int.reduceNeg, Int.reduceLT, Int.reduceLE, Int.reduceEq, Int.reduceToNat, fA]
  have hmv := mostI_le hok hS
  refine goC_loop (α := {i : Nat // i ≤ b.cracks.length}) (fun x => ⟨[(3, .ptr 16 0), (4, .ob 232 x.1), (7, .ptr 144 0), (8, .v (.int .i64 (mostI V s).length)), (28, .v (.int .i64 b.cracks.length)), (29, .v (.int .i64 x.1))], [(16, .box 27 [.v (.int .i64 s.long), .v (.int .i64 s.wide), .v (.int .i64 s.kerf), .v (.int .i64 s.across)]), (136, .row 3 1 (V.bottom.map iR) true), (137, .row 3 1 (V.top.map iR) true), (138, .row 118 4 (V.spoils.map spoR) true), (144, .box 94 [.ob 136 (newLow b).length, .ob 137 (newTop b).length, .ob 138 b.cracks.length]),
    (232, .row 3 1 (((List.range x.1).map (costsI V s)).map iR) false)]⟩) (fun x => b.cracks.length - x.1) ⟨0, by omega⟩ [none] ?_ ?_
  · simp (maxSteps := 2000000) only [enA, ↓enP, Nat.reduceAdd, Nat.reduceMul, Nat.reduceSub, Nat.reduceLT, Nat.reduceLeDiff, Nat.reduceEqDiff, Nat.reduceBEq, ↓reduceIte, reduceCtorEq, fA]
    exact ⟨rfl, rfl⟩
  intro x B hB
  obtain ⟨i, hi⟩ := x
  by_cases hc : i < b.cracks.length
  · have qc : (i < b.cracks.length) = True := eq_true hc
    have e3 : IntKind.i64.wrap ((i : Int) + 1) = ((i + 1 : Nat) : Int) := wrap_id (by omega) (by omega)
    simp (maxSteps := 2000000) only [vcA, ↓vcP, ↓reduceIte, reduceCtorEq, Nat.reduceAdd, Nat.reduceMul, Nat.reduceSub, Nat.reduceLT, Nat.reduceLeDiff, Nat.reduceEqDiff, Nat.reduceBEq, Nat.reduceBNe, Nat.reduceGT, Nat.reduceDiv, Nat.reduceMod, Int.reduceAdd, Int.reduceSub, Int.reduceNeg, Int.reduceLT, Int.reduceLE, Int.reduceEq, Int.reduceToNat, fA, qc, e3]
    refine onS_frz ?_
    simp (maxSteps := 2000000) only [vcA, ↓vcP, ↓reduceIte, reduceCtorEq, Nat.reduceAdd, Nat.reduceMul, Nat.reduceSub, Nat.reduceLT, Nat.reduceLeDiff, Nat.reduceEqDiff, Nat.reduceBEq, Nat.reduceBNe, Nat.reduceGT, Nat.reduceDiv, Nat.reduceMod, Int.reduceAdd, Int.reduceSub, Int.reduceNeg, Int.reduceLT, Int.reduceLE, Int.reduceEq, Int.reduceToNat, fA, qc, e3]
    refine ⟨by omega, fun _ => onS_frz ?_⟩
    simp (maxSteps := 2000000) only [vcA, ↓vcP, ↓reduceIte, reduceCtorEq, Nat.reduceAdd, Nat.reduceMul, Nat.reduceSub, Nat.reduceLT, Nat.reduceLeDiff, Nat.reduceEqDiff, Nat.reduceBEq, Nat.reduceBNe, Nat.reduceGT, Nat.reduceDiv, Nat.reduceMod, Int.reduceAdd, Int.reduceSub, Int.reduceNeg, Int.reduceLT, Int.reduceLE, Int.reduceEq, Int.reduceToNat, fA, qc, e3]
    have hml : V.spoils.take i ++ V.spoils.drop (i + 1) = [V.spoils.take i, V.spoils.drop (i + 1)].flatten := by simp
    have hln : ([V.spoils.take i, V.spoils.drop (i + 1)].flatten).length < 1000 := by have := (dropV_ok hok i).sle; rw [← hml]; exact Nat.lt_of_le_of_lt this (by omega)
    refine ⟨by omega, fun _ => onF_call (concat_spec [V.spoils.take i, V.spoils.drop (i + 1)] (by simp) hln) [384] [] [] ?_ ?_⟩
    · simp (maxSteps := 2000000) only [okA, ↓okP, Nat.reduceAdd, Nat.reduceMul, Nat.reduceSub, Nat.reduceLT, Nat.reduceLeDiff, Nat.reduceEqDiff, Nat.reduceBEq, ↓reduceIte, reduceCtorEq]
      simp [spsR]
    simp (maxSteps := 2000000) only [vcA, ↓vcP, ↓reduceIte, reduceCtorEq, Nat.reduceAdd, Nat.reduceMul, Nat.reduceSub, Nat.reduceLT, Nat.reduceLeDiff, Nat.reduceEqDiff, Nat.reduceBEq, Nat.reduceBNe, Nat.reduceGT, Nat.reduceDiv, Nat.reduceMod, Int.reduceAdd, Int.reduceSub, Int.reduceNeg, Int.reduceLT, Int.reduceLE, Int.reduceEq, Int.reduceToNat, fA, qc, e3]
    repeat (first | refine ⟨by kernel_rfl, ?_⟩ | refine ⟨⟨by kernel_rfl, by kernel_rfl⟩, ?_⟩ | refine ⟨⟨by kernel_rfl, by kernel_rfl, by kernel_rfl⟩, ?_⟩ | refine ⟨⟨by kernel_rfl, by kernel_rfl, by kernel_rfl, by kernel_rfl⟩, ?_⟩ | refine ⟨⟨by kernel_rfl, by kernel_rfl, by kernel_rfl, by kernel_rfl, by kernel_rfl⟩, ?_⟩ | refine ⟨⟨by kernel_rfl, by kernel_rfl, by kernel_rfl, by kernel_rfl, by kernel_rfl, by kernel_rfl⟩, ?_⟩ | refine ⟨⟨by kernel_rfl, by kernel_rfl, by kernel_rfl, by kernel_rfl, by kernel_rfl, by kernel_rfl, by kernel_rfl⟩, ?_⟩ | refine ⟨⟨by kernel_rfl, by kernel_rfl, by kernel_rfl, by kernel_rfl, by kernel_rfl, by kernel_rfl, by kernel_rfl, by kernel_rfl⟩, ?_⟩ | refine ⟨⟨by kernel_rfl, by kernel_rfl, by kernel_rfl, by kernel_rfl, by kernel_rfl, by kernel_rfl, by kernel_rfl, by kernel_rfl, by kernel_rfl⟩, ?_⟩ | refine ⟨⟨by kernel_rfl, by kernel_rfl, by kernel_rfl, by kernel_rfl, by kernel_rfl, by kernel_rfl, by kernel_rfl, by kernel_rfl, by kernel_rfl, by kernel_rfl⟩, ?_⟩ | refine ⟨⟨by kernel_rfl, by kernel_rfl, by kernel_rfl, by kernel_rfl, by kernel_rfl, by kernel_rfl, by kernel_rfl, by kernel_rfl, by kernel_rfl, by kernel_rfl, by kernel_rfl⟩, ?_⟩ | refine ⟨⟨by kernel_rfl, by kernel_rfl, by kernel_rfl, by kernel_rfl, by kernel_rfl, by kernel_rfl, by kernel_rfl, by kernel_rfl, by kernel_rfl, by kernel_rfl, by kernel_rfl, by kernel_rfl⟩, ?_⟩ | refine ⟨⟨by kernel_rfl, by kernel_rfl, by kernel_rfl, by kernel_rfl, by kernel_rfl, by kernel_rfl, by kernel_rfl, by kernel_rfl, by kernel_rfl, by kernel_rfl, by kernel_rfl, by kernel_rfl, by kernel_rfl⟩, ?_⟩)
    have hmd := mostI_le (dropV_ok hok i) hS
    have e4 : IntKind.i64.wrap (((mostI (dropV V i) s).length : Int) - (mostI V s).length) = costsI V s i := wrap_id (by omega) (by omega)
    refine onF_call (most_spec (dropV V i) s (dropV_ok hok i) hS) [392] [] [] ?_ ?_
    · simp (maxSteps := 2000000) only [okA, ↓okP, Nat.reduceAdd, Nat.reduceMul, Nat.reduceSub, Nat.reduceLT, Nat.reduceLeDiff, Nat.reduceEqDiff, Nat.reduceBEq, ↓reduceIte, reduceCtorEq]
      exact ⟨rfl, rfl, rfl⟩
    simp (maxSteps := 2000000) only [vcA, ↓vcP, ↓reduceIte, reduceCtorEq, Nat.reduceAdd, Nat.reduceMul, Nat.reduceSub, Nat.reduceLT, Nat.reduceLeDiff, Nat.reduceEqDiff, Nat.reduceBEq, Nat.reduceBNe, Nat.reduceGT, Nat.reduceDiv, Nat.reduceMod, Int.reduceAdd, Int.reduceSub, Int.reduceNeg, Int.reduceLT, Int.reduceLE, Int.reduceEq, Int.reduceToNat, fA, qc, e3, e4]
    have hrl : (List.range i).length + 1 ≤ 1000 := by rw [List.length_range]; omega
    refine ⟨⟨by omega, by simp only [maxLen]; omega⟩, fun _ => hB _ ⟨i + 1, by omega⟩ [some 480] (by simp only; omega) rfl ?_⟩
    simp (maxSteps := 2000000) only [enA, ↓enP, Nat.reduceAdd, Nat.reduceMul, Nat.reduceSub, Nat.reduceLT, Nat.reduceLeDiff, Nat.reduceEqDiff, Nat.reduceBEq, ↓reduceIte, reduceCtorEq, fA]
    rw [List.range_succ, List.map_append, List.map_append]
    simp [iR]
  · have qc : (i < b.cracks.length) = False := eq_false hc
    have : i = b.cracks.length := by omega
    subst this
    simp (maxSteps := 2000000) only [vcA, ↓vcP, ↓reduceIte, reduceCtorEq, Nat.reduceAdd, Nat.reduceMul, Nat.reduceSub, Nat.reduceLT, Nat.reduceLeDiff, Nat.reduceEqDiff, Nat.reduceBEq, Nat.reduceBNe, Nat.reduceGT, Nat.reduceDiv, Nat.reduceMod, Int.reduceAdd, Int.reduceSub, Int.reduceNeg, Int.reduceLT, Int.reduceLE, Int.reduceEq, Int.reduceToNat, fA, qc]
    refine hR _ (fin_of1 [some 232] ?_)
    rw [eL, h4]
    simp (maxSteps := 2000000) only [enA, ↓enP, Nat.reduceAdd, Nat.reduceMul, Nat.reduceSub, Nat.reduceLT, Nat.reduceLeDiff, Nat.reduceEqDiff, Nat.reduceBEq, ↓reduceIte, reduceCtorEq, fA]
    simp
/-- The widest sticks of which there are so many: halved again and again. -/
def wideGo (v : Vw) (s : Sw) (sticks : Int) : Nat → Int → Int → Int
  | 0, lo, _ => lo
  | f + 1, lo, hi => if lo < hi then
      if ((mostI v { s with wide := (lo + hi + 1) / 2 }).length : Int) ≥ sticks then wideGo v s sticks f ((lo + hi + 1) / 2) hi
      else wideGo v s sticks f lo ((lo + hi + 1) / 2 - 1)
    else lo
theorem wideGo_fuel {v : Vw} {s : Sw} {sticks : Int} : ∀ (f g : Nat) (lo hi : Int), (hi - lo).toNat ≤ f → (hi - lo).toNat ≤ g → wideGo v s sticks f lo hi = wideGo v s sticks g lo hi
  | 0, 0, _, _, _, _ => rfl
  | 0, g + 1, lo, hi, h, _ => by rw [wideGo, wideGo, if_neg (by omega)]
  | f + 1, 0, lo, hi, _, h => by rw [wideGo, wideGo, if_neg (by omega)]
  | f + 1, g + 1, lo, hi, h1, h2 => by
    rw [wideGo, wideGo]
    by_cases hc : lo < hi
    · rw [if_pos hc, if_pos hc, wideGo_fuel f g ((lo + hi + 1) / 2) hi (by omega) (by omega), wideGo_fuel f g lo ((lo + hi + 1) / 2 - 1) (by omega) (by omega)]
    · rw [if_neg hc, if_neg hc]
def wideI (v : Vw) (s : Sw) (sticks lo hi : Int) : Int := wideGo v s sticks (hi - lo).toNat lo hi
theorem wideI_end {v : Vw} {s : Sw} {sticks lo hi : Int} (h : ¬ lo < hi) : wideI v s sticks lo hi = lo := by
  unfold wideI
  rw [show (hi - lo).toNat = 0 by omega]
  rfl
theorem wideI_step {v : Vw} {s : Sw} {sticks lo hi : Int} (h : lo < hi) : wideI v s sticks lo hi = if ((mostI v { s with wide := (lo + hi + 1) / 2 }).length : Int) ≥ sticks then wideI v s sticks ((lo + hi + 1) / 2) hi else wideI v s sticks lo ((lo + hi + 1) / 2 - 1) := by
  unfold wideI
  rw [show (hi - lo).toNat = (hi - lo - 1).toNat + 1 by omega, wideGo, if_pos h, wideGo_fuel (hi - lo - 1).toNat (hi - (lo + hi + 1) / 2).toNat _ _ (by omega) (by omega), wideGo_fuel (hi - lo - 1).toNat ((lo + hi + 1) / 2 - 1 - lo).toNat _ _ (by omega) (by omega)]
/-- The widest sticks, and the error. -/
def widestR (b : Bl) (s : Sw) (sticks : Int) : Int × Int := if openErr b s ≠ 0 then (0, openErr b s) else if betw 1 400 [sticks] = true then
    (if wideI (sureB b) s sticks 0 300 = 0 then (0, 7) else (wideI (sureB b) s sticks 0 300, 0)) else (0, 2)
theorem sureF_spec (b : Bl) (low top : List Sp) (h1 : low.length < 1000) (h2 : top.length < 1000) (h3 : b.cracks.length < 1000) : SpecF Try.prog 50 [.agg [.sl 2 (b.bottom.map spR), .sl 2 (b.top.map spR), .v (.int .i64 b.bend), .sl 6 (b.cracks.map crR), .sl 2 (low.map spR), .sl 2 (top.map spR)]]
    (.agg [.sl 1 ((sureV low top b.cracks).bottom.map iR), .sl 1 ((sureV low top b.cracks).top.map iR), .sl 4 ((sureV low top b.cracks).spoils.map spoR)]) [] := (sure_spec b low top h1 h2 h3).frz
theorem openF_spec (b : Bl) (s : Sw) (h1 : b.bottom.length < 1000000) (h2 : b.top.length < 1000000) : SpecF Try.prog 37 [.agg [.sl 2 (b.bottom.map spR), .sl 2 (b.top.map spR), .v (.int .i64 b.bend), .sl 6 (b.cracks.map crR)], .agg [.v (.int .i64 s.long), .v (.int .i64 s.wide), .v (.int .i64 s.kerf), .v (.int .i64 s.across)]]
    (.tup [.agg [.sl 2 ((newB b).bottom.map spR), .sl 2 ((newB b).top.map spR), .v (.int .i64 (newB b).bend), .sl 6 ((newB b).cracks.map crR), .sl 2 ((newLow b).map spR), .sl 2 ((newTop b).map spR)], .v (.int .i64 (openErr b s))]) [] := (openB_spec b s h1 h2).frz
/-- What the closure of Widest holds: the saw, the view, and how many sticks. -/
def wideObs (v : Vw) (s : Sw) (sticks : Int) : List Obj := [.box 27 [.v (.int .i64 s.long), .v (.int .i64 s.wide), .v (.int .i64 s.kerf), .v (.int .i64 s.across)], .box 94 [.sl 1 (v.bottom.map iR), .sl 1 (v.top.map iR), .sl 4 (v.spoils.map spoR)], .box 3 [.v (.int .i64 sticks)]]
theorem enough_spec (v : Vw) (s : Sw) (sticks w : Int) (hv : v.Ok) (hs : sawOk s = true) (hw : 1 ≤ w ∧ w ≤ 300) : SpecG Try.prog 57 [.v (.int .i64 w), .ptr 0 0, .ptr 1 0, .ptr 2 0] (wideObs v s sticks)
    (.v (.bool (decide (((mostI v { s with wide := w }).length : Int) ≥ sticks)))) (wideObs v s sticks) := by
  unfold wideObs
  have hs2 : sawOk { s with wide := w } = true := by
    unfold sawOk at hs ⊢
    simp only [Bool.and_eq_true] at hs ⊢
    refine ⟨⟨hs.1.1, ?_⟩, hs.2⟩
    simp [betw, hw]
  refine spec_go (N := 16) (rs := [.tmp 5]) (eq := eqs) rfl rfl fun_57 rfl (by kernel_rfl) (by kernel_rfl) (by simp) (by simp) (by simp) (by simp) fun R hR => ?_
  simp (maxSteps := 2000000) only [vcA, ↓vcP, ↓reduceIte, reduceCtorEq, Nat.reduceAdd, Nat.reduceMul, Nat.reduceSub, Nat.reduceLT, Nat.reduceLeDiff, Nat.reduceEqDiff, Nat.reduceBEq, Nat.reduceBNe, Nat.reduceGT, Nat.reduceDiv, Nat.reduceMod, Int.reduceAdd, Int.reduceSub, Int.reduceNeg, Int.reduceLT, Int.reduceLE, Int.reduceEq, Int.reduceToNat, fA]
  refine onF_call (most_spec v { s with wide := w } hv hs2) [] [] [] ?_ ?_
  · simp (maxSteps := 2000000) only [okA, ↓okP, Nat.reduceAdd, Nat.reduceMul, Nat.reduceSub, Nat.reduceLT, Nat.reduceLeDiff, Nat.reduceEqDiff, Nat.reduceBEq, ↓reduceIte, reduceCtorEq]
  simp (maxSteps := 2000000) only [vcA, ↓vcP, ↓reduceIte, reduceCtorEq, Nat.reduceAdd, Nat.reduceMul, Nat.reduceSub, Nat.reduceLT, Nat.reduceLeDiff, Nat.reduceEqDiff, Nat.reduceBEq, Nat.reduceBNe, Nat.reduceGT, Nat.reduceDiv, Nat.reduceMod, Int.reduceAdd, Int.reduceSub, Int.reduceNeg, Int.reduceLT, Int.reduceLE, Int.reduceEq, Int.reduceToNat, fA]
  repeat (first | refine ⟨by kernel_rfl, ?_⟩ | refine ⟨⟨by kernel_rfl, by kernel_rfl⟩, ?_⟩ | refine ⟨⟨by kernel_rfl, by kernel_rfl, by kernel_rfl⟩, ?_⟩ | refine ⟨⟨by kernel_rfl, by kernel_rfl, by kernel_rfl, by kernel_rfl⟩, ?_⟩ | refine ⟨⟨by kernel_rfl, by kernel_rfl, by kernel_rfl, by kernel_rfl, by kernel_rfl⟩, ?_⟩ | refine ⟨⟨by kernel_rfl, by kernel_rfl, by kernel_rfl, by kernel_rfl, by kernel_rfl, by kernel_rfl⟩, ?_⟩ | refine ⟨⟨by kernel_rfl, by kernel_rfl, by kernel_rfl, by kernel_rfl, by kernel_rfl, by kernel_rfl, by kernel_rfl⟩, ?_⟩ | refine ⟨⟨by kernel_rfl, by kernel_rfl, by kernel_rfl, by kernel_rfl, by kernel_rfl, by kernel_rfl, by kernel_rfl, by kernel_rfl⟩, ?_⟩ | refine ⟨⟨by kernel_rfl, by kernel_rfl, by kernel_rfl, by kernel_rfl, by kernel_rfl, by kernel_rfl, by kernel_rfl, by kernel_rfl, by kernel_rfl⟩, ?_⟩ | refine ⟨⟨by kernel_rfl, by kernel_rfl, by kernel_rfl, by kernel_rfl, by kernel_rfl, by kernel_rfl, by kernel_rfl, by kernel_rfl, by kernel_rfl, by kernel_rfl⟩, ?_⟩ | refine ⟨⟨by kernel_rfl, by kernel_rfl, by kernel_rfl, by kernel_rfl, by kernel_rfl, by kernel_rfl, by kernel_rfl, by kernel_rfl, by kernel_rfl, by kernel_rfl, by kernel_rfl⟩, ?_⟩ | refine ⟨⟨by kernel_rfl, by kernel_rfl, by kernel_rfl, by kernel_rfl, by kernel_rfl, by kernel_rfl, by kernel_rfl, by kernel_rfl, by kernel_rfl, by kernel_rfl, by kernel_rfl, by kernel_rfl⟩, ?_⟩ | refine ⟨⟨by kernel_rfl, by kernel_rfl, by kernel_rfl, by kernel_rfl, by kernel_rfl, by kernel_rfl, by kernel_rfl, by kernel_rfl, by kernel_rfl, by kernel_rfl, by kernel_rfl, by kernel_rfl, by kernel_rfl⟩, ?_⟩)
  refine hR _ (fin_of1 [] ?_)
  simp (maxSteps := 2000000) only [enA, ↓enP, Nat.reduceAdd, Nat.reduceMul, Nat.reduceSub, Nat.reduceLT, Nat.reduceLeDiff, Nat.reduceEqDiff, Nat.reduceBEq, ↓reduceIte, reduceCtorEq, fA]
set_option maxHeartbeats 1000000 in
theorem widest_spec (b : Bl) (s : Sw) (sticks : Int) (h1 : b.bottom.length < 1000000) (h2 : b.top.length < 1000000) : SpecF Try.prog 26 [.agg [.sl 2 (b.bottom.map spR), .sl 2 (b.top.map spR), .v (.int .i64 b.bend), .sl 6 (b.cracks.map crR)], .agg [.v (.int .i64 s.long), .v (.int .i64 s.wide), .v (.int .i64 s.kerf), .v (.int .i64 s.across)], .v (.int .i64 sticks)]
    (.tup [.v (.int .i64 (widestR b s sticks).1), .v (.int .i64 (widestR b s sticks).2)]) [] := by
  refine spec_go (N := 50) (rs := [.tmp 6, .tmp 7]) (eq := eqs) rfl rfl fun_26 rfl (by kernel_rfl) (by kernel_rfl) (by simp) (by simp) (by simp) (by simp) fun R hR => ?_
  simp (maxSteps := 2000000) only [vcA, ↓vcP, ↓reduceIte, reduceCtorEq, Nat.reduceAdd, Nat.reduceMul, Nat.reduceSub, Nat.reduceLT, Nat.reduceLeDiff, Nat.reduceEqDiff, Nat.reduceBEq, Nat.reduceBNe, Nat.reduceGT, Nat.reduceDiv, Nat.reduceMod, Int.reduceAdd, Int.reduceSub, Int.reduceNeg, Int.reduceLT, Int.reduceLE, Int.reduceEq, Int.reduceToNat, fA]
  refine onF_call (openF_spec b s h1 h2) [] [] [] ?_ ?_
  · simp (maxSteps := 2000000) only [okA, ↓okP, Nat.reduceAdd, Nat.reduceMul, Nat.reduceSub, Nat.reduceLT, Nat.reduceLeDiff, Nat.reduceEqDiff, Nat.reduceBEq, ↓reduceIte, reduceCtorEq]
  simp (maxSteps := 2000000) only [vcA, ↓vcP, ↓reduceIte, reduceCtorEq, Nat.reduceAdd, Nat.reduceMul, Nat.reduceSub, Nat.reduceLT, Nat.reduceLeDiff, Nat.reduceEqDiff, Nat.reduceBEq, Nat.reduceBNe, Nat.reduceGT, Nat.reduceDiv, Nat.reduceMod, Int.reduceAdd, Int.reduceSub, Int.reduceNeg, Int.reduceLT, Int.reduceLE, Int.reduceEq, Int.reduceToNat, fA]
  refine ⟨fun h3 => hR _ (fin_of0 ?_), fun h3 => ?_⟩
  · have h4 : openErr b s ≠ 0 := by simpa using h3
    have e1 : widestR b s sticks = (0, openErr b s) := by unfold widestR; rw [if_pos h4]
    rw [e1]
    simp (maxSteps := 2000000) only [enA, ↓enP, Nat.reduceAdd, Nat.reduceMul, Nat.reduceSub, Nat.reduceLT, Nat.reduceLeDiff, Nat.reduceEqDiff, Nat.reduceBEq, ↓reduceIte, reduceCtorEq, fA]
  have h4 : openErr b s = 0 := by simpa using h3
  obtain ⟨hN, hS⟩ := open_ok h4
  obtain ⟨n0, o1, o2, l1, l2, g1, g2, g3, _⟩ := new_ok hN
  rw [n0]
  refine onF_call3 (tooth_within 1 400 [sticks] (by simp)) ?_ ?_
  · simp (maxSteps := 2000000) only [okA, ↓okP, Nat.reduceAdd, Nat.reduceMul, Nat.reduceSub, Nat.reduceLT, Nat.reduceLeDiff, Nat.reduceEqDiff, Nat.reduceBEq, ↓reduceIte, reduceCtorEq]
    rfl
  simp (maxSteps := 2000000) only [vcA, ↓vcP, ↓reduceIte, reduceCtorEq, Nat.reduceAdd, Nat.reduceMul, Nat.reduceSub, Nat.reduceLT, Nat.reduceLeDiff, Nat.reduceEqDiff, Nat.reduceBEq, Nat.reduceBNe, Nat.reduceGT, Nat.reduceDiv, Nat.reduceMod, Int.reduceAdd, Int.reduceSub, Int.reduceNeg, Int.reduceLT, Int.reduceLE, Int.reduceEq, Int.reduceToNat, fA]
  refine ⟨fun h5 => hR _ (fin_of0 ?_), fun h5 => ?_⟩
  · have e1 : widestR b s sticks = (0, 2) := by
      unfold widestR
      rw [if_neg (by rw [h4]; simp), if_neg (by simpa using h5)]
    rw [e1]
    simp (maxSteps := 2000000) only [enA, ↓enP, Nat.reduceAdd, Nat.reduceMul, Nat.reduceSub, Nat.reduceLT, Nat.reduceLeDiff, Nat.reduceEqDiff, Nat.reduceBEq, ↓reduceIte, reduceCtorEq, fA]
  have h6 : betw 1 400 [sticks] = true := by simpa using h5
  refine onF_call (sureF_spec b (newLow b) (newTop b) (by omega) (by omega) (by omega)) [] [] [] ?_ ?_
  · simp (maxSteps := 2000000) only [okA, ↓okP, Nat.reduceAdd, Nat.reduceMul, Nat.reduceSub, Nat.reduceLT, Nat.reduceLeDiff, Nat.reduceEqDiff, Nat.reduceBEq, ↓reduceIte, reduceCtorEq]
  simp (maxSteps := 2000000) only [vcA, ↓vcP, ↓reduceIte, reduceCtorEq, Nat.reduceAdd, Nat.reduceMul, Nat.reduceSub, Nat.reduceLT, Nat.reduceLeDiff, Nat.reduceEqDiff, Nat.reduceBEq, Nat.reduceBNe, Nat.reduceGT, Nat.reduceDiv, Nat.reduceMod, Int.reduceAdd, Int.reduceSub, Int.reduceNeg, Int.reduceLT, Int.reduceLE, Int.reduceEq, Int.reduceToNat, fA]
  have hok := sure_ok hN
  have eB : sureB b = sureV (newLow b) (newTop b) b.cracks := rfl
  rw [← eB] at hok ⊢
  have hlow : (sureB b).bottom.length = (newLow b).length := by simp [eB, sureV]
  have htop : (sureB b).top.length = (newTop b).length := by simp [eB, sureV]
  have hspo : (sureB b).spoils.length = b.cracks.length := by simp [eB, sureV]
  have eL : widestR b s sticks = if wideI (sureB b) s sticks 0 300 = 0 then (0, 7) else (wideI (sureB b) s sticks 0 300, 0) := by unfold widestR; rw [if_neg (by rw [h4]; simp), if_pos h6]
  generalize hV : sureB b = V at *
  have hS2 := hS
  refine goC_loop (α := {q : Int × Int // 0 ≤ q.1 ∧ q.1 ≤ 300 ∧ 0 ≤ q.2 ∧ q.2 ≤ 300 ∧ wideI V s sticks 0 300 = wideI V s sticks q.1 q.2}) (fun q => ⟨[(4, .ptr 16 0), (10, .ptr 200 0), (5, .ptr 24 0), (11, .fn 57 [.ptr 16 0, .ptr 200 0, .ptr 24 0]), (12, .v (.int .i64 q.1.1)), (13, .v (.int .i64 q.1.2))], [(16, .box 27 [.v (.int .i64 s.long), .v (.int .i64 s.wide), .v (.int .i64 s.kerf), .v (.int .i64 s.across)]), (24, .box 3 [.v (.int .i64 sticks)]), (200, .box 94 [.sl 1 (V.bottom.map iR), .sl 1 (V.top.map iR), .sl 4 (V.spoils.map spoR)])]⟩) (fun q => (q.1.2 - q.1.1).toNat) ⟨(0, 300), by omega, by omega, by omega, by omega, rfl⟩ [] ?_ ?_
  · simp (maxSteps := 2000000) only [enA, ↓enP, Nat.reduceAdd, Nat.reduceMul, Nat.reduceSub, Nat.reduceLT, Nat.reduceLeDiff, Nat.reduceEqDiff, Nat.reduceBEq, ↓reduceIte, reduceCtorEq, fA]
  intro q B hB
  obtain ⟨⟨lo, hi⟩, q1, q2, q3, q4, hinv⟩ := q
  simp only at q1 q2 q3 q4 hinv
  by_cases hc : lo < hi
  · have qc : (lo < hi) = True := eq_true hc
    have e1 : IntKind.i64.wrap (lo + hi) = lo + hi := wrap_id (by omega) (by omega)
    have e2 : IntKind.i64.wrap (lo + hi + 1) = lo + hi + 1 := wrap_id (by omega) (by omega)
    have e3 : (lo + hi + 1).tdiv 2 = (lo + hi + 1) / 2 := quo_of (by omega)
    have e4 : IntKind.i64.wrap ((lo + hi + 1) / 2) = (lo + hi + 1) / 2 := wrap_id (by omega) (by omega)
    have e5 : IntKind.i64.wrap ((lo + hi + 1) / 2 - 1) = (lo + hi + 1) / 2 - 1 := wrap_id (by omega) (by omega)
    have hst := wideI_step (v := V) (s := s) (sticks := sticks) hc
    simp (maxSteps := 2000000) only [vcA, ↓vcP, ↓reduceIte, reduceCtorEq, Nat.reduceAdd, Nat.reduceMul, Nat.reduceSub, Nat.reduceLT, Nat.reduceLeDiff, Nat.reduceEqDiff, Nat.reduceBEq, Nat.reduceBNe, Nat.reduceGT, Nat.reduceDiv, Nat.reduceMod, Int.reduceAdd, Int.reduceSub, Int.reduceNeg, Int.reduceLT, Int.reduceLE, Int.reduceEq, Int.reduceToNat, fA, qc, e1, e2, e3, e4]
    refine onF_call (enough_spec V s sticks ((lo + hi + 1) / 2) hok hS (by omega)) [] [] [16, 200, 24] ?_ ?_
    · unfold wideObs
      simp (maxSteps := 2000000) only [okA, ↓okP, Nat.reduceAdd, Nat.reduceMul, Nat.reduceSub, Nat.reduceLT, Nat.reduceLeDiff, Nat.reduceEqDiff, Nat.reduceBEq, ↓reduceIte, reduceCtorEq]
    · unfold wideObs
      simp (maxSteps := 2000000) only [vcA, ↓vcP, ↓reduceIte, reduceCtorEq, Nat.reduceAdd, Nat.reduceMul, Nat.reduceSub, Nat.reduceLT, Nat.reduceLeDiff, Nat.reduceEqDiff, Nat.reduceBEq, Nat.reduceBNe, Nat.reduceGT, Nat.reduceDiv, Nat.reduceMod, Int.reduceAdd, Int.reduceSub, Int.reduceNeg, Int.reduceLT, Int.reduceLE, Int.reduceEq, Int.reduceToNat, fA, e5]
      refine ⟨fun h7 => hB _ ⟨((lo + hi + 1) / 2, hi), by simp only; omega, by simp only; omega, by simp only; omega, by simp only; omega, by rw [hinv, hst, if_pos h7]⟩ [] (by simp only; omega) rfl ?_, fun h7 => hB _ ⟨(lo, (lo + hi + 1) / 2 - 1), by simp only; omega, by simp only; omega, by simp only; omega, by simp only; omega, by rw [hinv, hst, if_neg h7]⟩ [] (by simp only; omega) rfl ?_⟩
      · simp (maxSteps := 2000000) only [enA, ↓enP, Nat.reduceAdd, Nat.reduceMul, Nat.reduceSub, Nat.reduceLT, Nat.reduceLeDiff, Nat.reduceEqDiff, Nat.reduceBEq, ↓reduceIte, reduceCtorEq, fA]
      · simp (maxSteps := 2000000) only [enA, ↓enP, Nat.reduceAdd, Nat.reduceMul, Nat.reduceSub, Nat.reduceLT, Nat.reduceLeDiff, Nat.reduceEqDiff, Nat.reduceBEq, ↓reduceIte, reduceCtorEq, fA]
  · have qc : (lo < hi) = False := eq_false hc
    have hen := wideI_end (v := V) (s := s) (sticks := sticks) hc
    simp (maxSteps := 2000000) only [vcA, ↓vcP, ↓reduceIte, reduceCtorEq, Nat.reduceAdd, Nat.reduceMul, Nat.reduceSub, Nat.reduceLT, Nat.reduceLeDiff, Nat.reduceEqDiff, Nat.reduceBEq, Nat.reduceBNe, Nat.reduceGT, Nat.reduceDiv, Nat.reduceMod, Int.reduceAdd, Int.reduceSub, Int.reduceNeg, Int.reduceLT, Int.reduceLE, Int.reduceEq, Int.reduceToNat, fA, qc]
    refine ⟨fun h7 => hR _ (fin_of0 ?_), fun h7 => hR _ (fin_of0 ?_)⟩
    · have h8 : lo = 0 := by simpa using h7
      rw [eL, hinv, hen, if_pos h8]
      simp (maxSteps := 2000000) only [enA, ↓enP, Nat.reduceAdd, Nat.reduceMul, Nat.reduceSub, Nat.reduceLT, Nat.reduceLeDiff, Nat.reduceEqDiff, Nat.reduceBEq, ↓reduceIte, reduceCtorEq, fA]
    · have h8 : lo ≠ 0 := by simpa using h7
      rw [eL, hinv, hen, if_neg h8]
      simp (maxSteps := 2000000) only [enA, ↓enP, Nat.reduceAdd, Nat.reduceMul, Nat.reduceSub, Nat.reduceLT, Nat.reduceLeDiff, Nat.reduceEqDiff, Nat.reduceBEq, ↓reduceIte, reduceCtorEq, fA]
end Go.Proofs.Ytafpicjnccffgaa.Ab
