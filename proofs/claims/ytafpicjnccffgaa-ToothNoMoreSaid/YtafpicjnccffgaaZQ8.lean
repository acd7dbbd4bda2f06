/- Blades out of bytes: a truth. Blades out of bytes: a crack. Blades out of bytes: the blade, the saw, the truth and its places. -/
import Derived.Test.YtafpicjnccffgaaZP4
import Derived.Test.YtafpicjnccffgaaZP0
namespace Go.Proofs.Ytafpicjnccffgaa.Ab.T01
open Go Go.RowKit
set_option linter.unusedSimpArgs false
set_option linter.unusedVariables false
set_option maxRecDepth 100000
structure C4 where
  a : Int
  b : Int
  c : Int
  d : Int
instance : Inhabited C4 := ⟨⟨0, 0, 0, 0⟩⟩
structure C6 where
  a : Int
  b : Int
  c : Int
  d : Int
  e : Int
  f : Int
instance : Inhabited C6 := ⟨⟨0, 0, 0, 0, 0, 0⟩⟩
def c4R (c : C4) : List DV := [.v (.int .u8 c.a), .v (.int .u8 c.b), .v (.int .u8 c.c), .v (.int .u8 c.d)]
def c6R (c : C6) : List DV := [.v (.int .u8 c.a), .v (.int .u8 c.b), .v (.int .u8 c.c), .v (.int .u8 c.d), .v (.int .u8 c.e), .v (.int .u8 c.f)]
/-- A blade and a saw in bytes. -/
structure Tk where
  cols : List C4
  bend : Int
  cracks : List C6
  saw : C4
def By (n : Int) : Prop := 0 ≤ n ∧ n < 256
structure C4.Ok (z : C4) : Prop where
  a : By z.a
  b : By z.b
  c : By z.c
  d : By z.d
structure C6.Ok (z : C6) : Prop where
  a : By z.a
  b : By z.b
  c : By z.c
  d : By z.d
  e : By z.e
  f : By z.f
structure Tk.Ok (x : Tk) : Prop where
  cols : ∀ c ∈ x.cols, c.Ok
  bend : By x.bend
  cracks : ∀ c ∈ x.cracks, c.Ok
  saw : x.saw.Ok
def bendT (x : Tk) : Int := 1 + x.bend % 40
def colT (x : Tk) (i : Nat) : C4 := if i < x.cols.length then nth x.cols i else ⟨7, 90, 3, 3⟩
theorem colT_ok {x : Tk} (hx : x.Ok) (i : Nat) : (colT x i).Ok := by
  unfold colT
  split
  · rename_i h; exact hx.cols _ (nth_mem h)
  · exact ⟨⟨by decide, by decide⟩, ⟨by decide, by decide⟩, ⟨by decide, by decide⟩, ⟨by decide, by decide⟩⟩
/-- The true edges, column by column. -/
def lowT (x : Tk) : Nat → Int
  | 0 => (colT x 0).a % 60
  | i + 1 => max (lowT x i - bendT x) (min (lowT x i + bendT x) ((colT x (i + 1)).a % 60))
def topT (x : Tk) : Nat → Int
  | 0 => 70 + (colT x 0).b % 100
  | i + 1 => max (topT x i - bendT x) (min (topT x i + bendT x) (70 + (colT x (i + 1)).b % 100))
theorem lowT_bd (x : Tk) : ∀ i, 0 ≤ lowT x i ∧ lowT x i ≤ 59
  | 0 => by rw [lowT]; omega
  | i + 1 => by
    have := lowT_bd x i
    have hb : 1 ≤ bendT x := by unfold bendT; omega
    rw [lowT]
    omega
theorem topT_bd (x : Tk) : ∀ i, 70 ≤ topT x i ∧ topT x i ≤ 169
  | 0 => by rw [topT]; omega
  | i + 1 => by
    have := topT_bd x i
    have hb : 1 ≤ bendT x := by unfold bendT; omega
    rw [topT]
    omega
theorem bendT_bd (x : Tk) : 1 ≤ bendT x ∧ bendT x ≤ 40 := by unfold bendT; omega
def numT (x : Tk) : Nat := max 3 (min x.cols.length 10)
def lowsT (x : Tk) (n : Nat) : List Int := (List.range n).map (lowT x)
def topsT (x : Tk) (n : Nat) : List Int := (List.range n).map (topT x)
def tkA (x : Tk) : AV := .agg [.sl 4 (x.cols.map c4R), .v (.int .u8 x.bend), .sl 6 (x.cracks.map c6R), .v (.int .u8 x.saw.a), .v (.int .u8 x.saw.b), .v (.int .u8 x.saw.c), .v (.int .u8 x.saw.d)]
theorem low_nth {x : Tk} {n j : Nat} (h : j < n) : nth (lowsT x n) j = lowT x j := by
  unfold lowsT nth
  simp [h]
theorem top_nth {x : Tk} {n j : Nat} (h : j < n) : nth (topsT x n) j = topT x j := by
  unfold topsT nth
  simp [h]
theorem lows_succ (x : Tk) (n : Nat) : lowsT x (n + 1) = lowsT x n ++ [lowT x n] := by unfold lowsT; rw [List.range_succ, List.map_append]; rfl
theorem tops_succ (x : Tk) (n : Nat) : topsT x (n + 1) = topsT x n ++ [topT x n] := by unfold topsT; rw [List.range_succ, List.map_append]; rfl
theorem clamp_spec (n : Int) (s : Sp) : SpecF Try.prog 75 [.v (.int .i64 n), .agg [.v (.int .i64 s.1), .v (.int .i64 s.2)]] (.v (.int .i64 (max s.1 (min s.2 n)))) [] := by
  refine spec_go (N := 12) (rs := [.tmp 4]) (eq := eqs) rfl rfl fun_75 rfl (by kernel_rfl) (by kernel_rfl) (by simp) (by simp) (by simp) (by simp) fun R hR => ?_
  simp (maxSteps := 2000000) only [vcA, ↓vcP, ↓reduceIte, reduceCtorEq, Nat.reduceAdd, Nat.reduceMul, Nat.reduceSub, Nat.reduceLT, Nat.reduceLeDiff, Nat.reduceEqDiff, Nat.reduceBEq, Nat.reduceBNe, Nat.reduceGT, Nat.reduceDiv, Nat.reduceMod, Int.reduceAdd, Int.reduceSub, Int.reduceNeg, Int.reduceLT, Int.reduceLE, Int.reduceEq, Int.reduceToNat, fA]
  refine hR _ (fin_of0 ?_)
  simp (maxSteps := 2000000) only [enA, ↓enP, Nat.reduceAdd, Nat.reduceMul, Nat.reduceSub, Nat.reduceLT, Nat.reduceLeDiff, Nat.reduceEqDiff, Nat.reduceBEq, ↓reduceIte, reduceCtorEq, fA]
set_option maxHeartbeats 4000000 in
theorem truth_spec (x : Tk) (hx : x.Ok) : SpecF Try.prog 53 [.agg [.sl 4 (x.cols.map c4R), .v (.int .u8 x.bend), .sl 6 (x.cracks.map c6R), .v (.int .u8 x.saw.a), .v (.int .u8 x.saw.b), .v (.int .u8 x.saw.c), .v (.int .u8 x.saw.d)]] (.tup [.sl 1 ((lowsT x (numT x)).map iR), .sl 1 ((topsT x (numT x)).map iR), .v (.int .i64 (bendT x))]) [] := by
  refine SpecG.frz (r := .tup [.ob 0 (numT x), .ob 1 (numT x), .v (.int .i64 (bendT x))]) (objs := [.row 3 1 ((lowsT x (numT x)).map iR) false, .row 3 1 ((topsT x (numT x)).map iR) false]) ?_
  have hbe := hx.bend
  unfold By at hbe
  have e1 : IntKind.i64.wrap x.bend = x.bend := wrap_id (by omega) (by omega)
  have e2 : x.bend.tmod 40 = x.bend % 40 := rem_of (by omega)
  have e3 : IntKind.i64.wrap (1 + x.bend % 40) = bendT x := wrap_id (by omega) (by omega)
  refine spec_go (N := 101) (rs := [.tmp 2, .tmp 3, .tmp 4]) (eq := eqs) rfl rfl fun_53 rfl (by kernel_rfl) (by kernel_rfl) (by simp) (by simp) (by simp) (by simp) fun R hR => ?_
  simp (maxSteps := 2000000) only [vcA, ↓vcP, ↓reduceIte, reduceCtorEq, Nat.reduceAdd, Nat.reduceMul, Nat.reduceSub, Nat.reduceLT, Nat.reduceLeDiff, Nat.reduceEqDiff, Nat.reduceBEq, Nat.reduceBNe, Nat.reduceGT, Nat.reduceDiv, Nat.reduceMod, Int.reduceAdd, Int.reduceSub, Int.reduceNeg, Int.reduceLT, Int.reduceLE, Int.reduceEq, Int.reduceToNat, fA, e1, e2, e3]
  have hB0 := bendT_bd x
  have hN : numT x = max 3 (min x.cols.length 10) := rfl
  have ll : ∀ n, (lowsT x n).length = n := fun n => by simp [lowsT]
  have lt : ∀ n, (topsT x n).length = n := fun n => by simp [topsT]
  refine goC_loop (α := {i : Nat // i ≤ numT x}) (fun y => ⟨[(1, .ptr 8 0), (5, .v (.int .i64 (bendT x))), (6, .ob 128 y.1), (7, .ob 129 y.1), (8, .v (.int .i64 y.1))], [(8, .box 55 [.sl 4 (x.cols.map c4R), .v (.int .u8 x.bend), .sl 6 (x.cracks.map c6R), .v (.int .u8 x.saw.a), .v (.int .u8 x.saw.b), .v (.int .u8 x.saw.c), .v (.int .u8 x.saw.d)]), (128, .row 3 1 ((lowsT x y.1).map iR) false), (129, .row 3 1 ((topsT x y.1).map iR) false)]⟩) (fun y => numT x - y.1) ⟨0, by omega⟩ [some 88, some 96] ?_ ?_
  · simp (maxSteps := 2000000) only [enA, ↓enP, Nat.reduceAdd, Nat.reduceMul, Nat.reduceSub, Nat.reduceLT, Nat.reduceLeDiff, Nat.reduceEqDiff, Nat.reduceBEq, ↓reduceIte, reduceCtorEq, fA]
    exact ⟨rfl, rfl, rfl⟩
  intro y B hB
  obtain ⟨i, hi⟩ := y
  have e4 : IntKind.i64.wrap ((i : Int) + 1) = ((i + 1 : Nat) : Int) := wrap_id (by omega) (by omega)
  have hz := colT_ok hx i
  by_cases c1 : i < 3
  · have q1 : ((i : Int) < 3) = True := eq_true (by omega)
    by_cases c2 : i < x.cols.length
    · have q2 : (i < x.cols.length) = True := eq_true c2
      have hc : colT x i = nth x.cols i := by unfold colT; rw [if_pos c2]
      have f1 : IntKind.i64.wrap (nth x.cols i).a = (nth x.cols i).a := by rw [← hc]; have := hz.a; unfold By at this; exact wrap_id (by omega) (by omega)
      have f2 : (nth x.cols i).a.tmod 60 = (colT x i).a % 60 := by rw [← hc]; exact rem_of hz.a.1
      have f3 : IntKind.i64.wrap (nth x.cols i).b = (nth x.cols i).b := by rw [← hc]; have := hz.b; unfold By at this; exact wrap_id (by omega) (by omega)
      have f4 : (nth x.cols i).b.tmod 100 = (colT x i).b % 100 := by rw [← hc]; exact rem_of hz.b.1
      have f5 : IntKind.i64.wrap (70 + (colT x i).b % 100) = 70 + (colT x i).b % 100 := wrap_id (by omega) (by omega)
      by_cases c3 : 0 < i
      · have q3 : ((i : Int) > 0) = True := eq_true (by omega)
        have e5 : IntKind.i64.wrap ((i : Int) - 1) = ((i - 1 : Nat) : Int) := by rw [wrap_id (by omega) (by omega)]; omega
        have e6 : nth (lowsT x i) (i - 1) = lowT x (i - 1) := low_nth (by omega)
        have e7 : nth (topsT x i) (i - 1) = topT x (i - 1) := top_nth (by omega)
        have bl := lowT_bd x (i - 1)
        have bt := topT_bd x (i - 1)
        have g1 : IntKind.i64.wrap (lowT x (i - 1) - bendT x) = lowT x (i - 1) - bendT x := wrap_id (by omega) (by omega)
        have g2 : IntKind.i64.wrap (lowT x (i - 1) + bendT x) = lowT x (i - 1) + bendT x := wrap_id (by omega) (by omega)
        have g3 : IntKind.i64.wrap (topT x (i - 1) - bendT x) = topT x (i - 1) - bendT x := wrap_id (by omega) (by omega)
        have g4 : IntKind.i64.wrap (topT x (i - 1) + bendT x) = topT x (i - 1) + bendT x := wrap_id (by omega) (by omega)
        have ii : i - 1 < i := by omega
        simp (maxSteps := 2000000) only [vcA, ↓vcP, ↓reduceIte, reduceCtorEq, Nat.reduceAdd, Nat.reduceMul, Nat.reduceSub, Nat.reduceLT, Nat.reduceLeDiff, Nat.reduceEqDiff, Nat.reduceBEq, Nat.reduceBNe, Nat.reduceGT, Nat.reduceDiv, Nat.reduceMod, Int.reduceAdd, Int.reduceSub, Int.reduceNeg, Int.reduceLT, Int.reduceLE, Int.reduceEq, Int.reduceToNat, fA, e4, q1, q2, c4R, f1, f2, f3, f4, f5, q3, e5, e6, e7, ll, lt, ii, iR, g1, g2, g3, g4]
        refine onF_data (span_spec (lowT x (i - 1) - bendT x) (lowT x (i - 1) + bendT x)) ?_ ?_
        · simp (maxSteps := 2000000) only [okA, ↓okP, Nat.reduceAdd, Nat.reduceMul, Nat.reduceSub, Nat.reduceLT, Nat.reduceLeDiff, Nat.reduceEqDiff, Nat.reduceBEq, ↓reduceIte, reduceCtorEq]
        simp (maxSteps := 2000000) only [vcA, ↓vcP, ↓reduceIte, reduceCtorEq, Nat.reduceAdd, Nat.reduceMul, Nat.reduceSub, Nat.reduceLT, Nat.reduceLeDiff, Nat.reduceEqDiff, Nat.reduceBEq, Nat.reduceBNe, Nat.reduceGT, Nat.reduceDiv, Nat.reduceMod, Int.reduceAdd, Int.reduceSub, Int.reduceNeg, Int.reduceLT, Int.reduceLE, Int.reduceEq, Int.reduceToNat, fA, e4, e5, e6, e7, ll, lt, ii, iR, f1, f2, f3, f4, f5, g3, g4]
        refine onF_data (clamp_spec ((colT x i).a % 60) (lowT x (i - 1) - bendT x, lowT x (i - 1) + bendT x)) ?_ ?_
        · simp (maxSteps := 2000000) only [okA, ↓okP, Nat.reduceAdd, Nat.reduceMul, Nat.reduceSub, Nat.reduceLT, Nat.reduceLeDiff, Nat.reduceEqDiff, Nat.reduceBEq, ↓reduceIte, reduceCtorEq]
        simp (maxSteps := 2000000) only [vcA, ↓vcP, ↓reduceIte, reduceCtorEq, Nat.reduceAdd, Nat.reduceMul, Nat.reduceSub, Nat.reduceLT, Nat.reduceLeDiff, Nat.reduceEqDiff, Nat.reduceBEq, Nat.reduceBNe, Nat.reduceGT, Nat.reduceDiv, Nat.reduceMod, Int.reduceAdd, Int.reduceSub, Int.reduceNeg, Int.reduceLT, Int.reduceLE, Int.reduceEq, Int.reduceToNat, fA, e4, e5, e6, e7, ll, lt, ii, iR, f1, f2, f3, f4, f5, g3, g4]
        refine onF_data (span_spec (topT x (i - 1) - bendT x) (topT x (i - 1) + bendT x)) ?_ ?_
        · simp (maxSteps := 2000000) only [okA, ↓okP, Nat.reduceAdd, Nat.reduceMul, Nat.reduceSub, Nat.reduceLT, Nat.reduceLeDiff, Nat.reduceEqDiff, Nat.reduceBEq, ↓reduceIte, reduceCtorEq]
        simp (maxSteps := 2000000) only [vcA, ↓vcP, ↓reduceIte, reduceCtorEq, Nat.reduceAdd, Nat.reduceMul, Nat.reduceSub, Nat.reduceLT, Nat.reduceLeDiff, Nat.reduceEqDiff, Nat.reduceBEq, Nat.reduceBNe, Nat.reduceGT, Nat.reduceDiv, Nat.reduceMod, Int.reduceAdd, Int.reduceSub, Int.reduceNeg, Int.reduceLT, Int.reduceLE, Int.reduceEq, Int.reduceToNat, fA, e4, e5, e6, e7, ll, lt, ii, iR, f1, f2, f3, f4, f5, g3, g4]
        refine onF_data (clamp_spec (70 + (colT x i).b % 100) (topT x (i - 1) - bendT x, topT x (i - 1) + bendT x)) ?_ ?_
        · simp (maxSteps := 2000000) only [okA, ↓okP, Nat.reduceAdd, Nat.reduceMul, Nat.reduceSub, Nat.reduceLT, Nat.reduceLeDiff, Nat.reduceEqDiff, Nat.reduceBEq, ↓reduceIte, reduceCtorEq]
        simp (maxSteps := 2000000) only [vcA, ↓vcP, ↓reduceIte, reduceCtorEq, Nat.reduceAdd, Nat.reduceMul, Nat.reduceSub, Nat.reduceLT, Nat.reduceLeDiff, Nat.reduceEqDiff, Nat.reduceBEq, Nat.reduceBNe, Nat.reduceGT, Nat.reduceDiv, Nat.reduceMod, Int.reduceAdd, Int.reduceSub, Int.reduceNeg, Int.reduceLT, Int.reduceLE, Int.reduceEq, Int.reduceToNat, fA, e4, e5, e6, e7, ll, lt, ii, iR, f1, f2, f3, f4, f5, g3, g4]
        have L1 : lowT x i = max (lowT x (i - 1) - bendT x) (min (lowT x (i - 1) + bendT x) ((colT x i).a % 60)) := by
          obtain ⟨j, rfl⟩ : ∃ j, i = j + 1 := ⟨i - 1, by omega⟩
          rw [lowT, Nat.add_sub_cancel]
        have L2 : topT x i = max (topT x (i - 1) - bendT x) (min (topT x (i - 1) + bendT x) (70 + (colT x i).b % 100)) := by
          obtain ⟨j, rfl⟩ : ∃ j, i = j + 1 := ⟨i - 1, by omega⟩
          rw [topT, Nat.add_sub_cancel]
        refine ⟨⟨by omega, by simp only [maxLen]; omega⟩, fun _ => ?_⟩
        repeat (first | refine ⟨by kernel_rfl, ?_⟩ | refine ⟨⟨by kernel_rfl, by kernel_rfl⟩, ?_⟩ | refine ⟨⟨by kernel_rfl, by kernel_rfl, by kernel_rfl⟩, ?_⟩ | refine ⟨⟨by kernel_rfl, by kernel_rfl, by kernel_rfl, by kernel_rfl⟩, ?_⟩ | refine ⟨⟨by kernel_rfl, by kernel_rfl, by kernel_rfl, by kernel_rfl, by kernel_rfl⟩, ?_⟩ | refine ⟨⟨by kernel_rfl, by kernel_rfl, by kernel_rfl, by kernel_rfl, by kernel_rfl, by kernel_rfl⟩, ?_⟩ | refine ⟨⟨by kernel_rfl, by kernel_rfl, by kernel_rfl, by kernel_rfl, by kernel_rfl, by kernel_rfl, by kernel_rfl⟩, ?_⟩ | refine ⟨⟨by kernel_rfl, by kernel_rfl, by kernel_rfl, by kernel_rfl, by kernel_rfl, by kernel_rfl, by kernel_rfl, by kernel_rfl⟩, ?_⟩ | refine ⟨⟨by kernel_rfl, by kernel_rfl, by kernel_rfl, by kernel_rfl, by kernel_rfl, by kernel_rfl, by kernel_rfl, by kernel_rfl, by kernel_rfl⟩, ?_⟩ | refine ⟨⟨by kernel_rfl, by kernel_rfl, by kernel_rfl, by kernel_rfl, by kernel_rfl, by kernel_rfl, by kernel_rfl, by kernel_rfl, by kernel_rfl, by kernel_rfl⟩, ?_⟩ | refine ⟨⟨by kernel_rfl, by kernel_rfl, by kernel_rfl, by kernel_rfl, by kernel_rfl, by kernel_rfl, by kernel_rfl, by kernel_rfl, by kernel_rfl, by kernel_rfl, by kernel_rfl⟩, ?_⟩ | refine ⟨⟨by kernel_rfl, by kernel_rfl, by kernel_rfl, by kernel_rfl, by kernel_rfl, by kernel_rfl, by kernel_rfl, by kernel_rfl, by kernel_rfl, by kernel_rfl, by kernel_rfl, by kernel_rfl⟩, ?_⟩ | refine ⟨⟨by kernel_rfl, by kernel_rfl, by kernel_rfl, by kernel_rfl, by kernel_rfl, by kernel_rfl, by kernel_rfl, by kernel_rfl, by kernel_rfl, by kernel_rfl, by kernel_rfl, by kernel_rfl, by kernel_rfl⟩, ?_⟩)
        refine ⟨⟨by omega, by simp only [maxLen]; omega⟩, fun _ => ?_⟩
        repeat (first | refine ⟨by kernel_rfl, ?_⟩ | refine ⟨⟨by kernel_rfl, by kernel_rfl⟩, ?_⟩ | refine ⟨⟨by kernel_rfl, by kernel_rfl, by kernel_rfl⟩, ?_⟩ | refine ⟨⟨by kernel_rfl, by kernel_rfl, by kernel_rfl, by kernel_rfl⟩, ?_⟩ | refine ⟨⟨by kernel_rfl, by kernel_rfl, by kernel_rfl, by kernel_rfl, by kernel_rfl⟩, ?_⟩ | refine ⟨⟨by kernel_rfl, by kernel_rfl, by kernel_rfl, by kernel_rfl, by kernel_rfl, by kernel_rfl⟩, ?_⟩ | refine ⟨⟨by kernel_rfl, by kernel_rfl, by kernel_rfl, by kernel_rfl, by kernel_rfl, by kernel_rfl, by kernel_rfl⟩, ?_⟩ | refine ⟨⟨by kernel_rfl, by kernel_rfl, by kernel_rfl, by kernel_rfl, by kernel_rfl, by kernel_rfl, by kernel_rfl, by kernel_rfl⟩, ?_⟩ | refine ⟨⟨by kernel_rfl, by kernel_rfl, by kernel_rfl, by kernel_rfl, by kernel_rfl, by kernel_rfl, by kernel_rfl, by kernel_rfl, by kernel_rfl⟩, ?_⟩ | refine ⟨⟨by kernel_rfl, by kernel_rfl, by kernel_rfl, by kernel_rfl, by kernel_rfl, by kernel_rfl, by kernel_rfl, by kernel_rfl, by kernel_rfl, by kernel_rfl⟩, ?_⟩ | refine ⟨⟨by kernel_rfl, by kernel_rfl, by kernel_rfl, by kernel_rfl, by kernel_rfl, by kernel_rfl, by kernel_rfl, by kernel_rfl, by kernel_rfl, by kernel_rfl, by kernel_rfl⟩, ?_⟩ | refine ⟨⟨by kernel_rfl, by kernel_rfl, by kernel_rfl, by kernel_rfl, by kernel_rfl, by kernel_rfl, by kernel_rfl, by kernel_rfl, by kernel_rfl, by kernel_rfl, by kernel_rfl, by kernel_rfl⟩, ?_⟩ | refine ⟨⟨by kernel_rfl, by kernel_rfl, by kernel_rfl, by kernel_rfl, by kernel_rfl, by kernel_rfl, by kernel_rfl, by kernel_rfl, by kernel_rfl, by kernel_rfl, by kernel_rfl, by kernel_rfl, by kernel_rfl⟩, ?_⟩)
        refine hB _ ⟨i + 1, by omega⟩ [some 792, some 824] ?_ rfl ?_
        · simp only; omega
        · simp (maxSteps := 2000000) only [enA, ↓enP, Nat.reduceAdd, Nat.reduceMul, Nat.reduceSub, Nat.reduceLT, Nat.reduceLeDiff, Nat.reduceEqDiff, Nat.reduceBEq, ↓reduceIte, reduceCtorEq, fA]
          rw [lows_succ, tops_succ, L1, L2]
          simp [iR]
      · have q3 : ((i : Int) > 0) = False := eq_false (by omega)
        simp (maxSteps := 2000000) only [vcA, ↓vcP, ↓reduceIte, reduceCtorEq, Nat.reduceAdd, Nat.reduceMul, Nat.reduceSub, Nat.reduceLT, Nat.reduceLeDiff, Nat.reduceEqDiff, Nat.reduceBEq, Nat.reduceBNe, Nat.reduceGT, Nat.reduceDiv, Nat.reduceMod, Int.reduceAdd, Int.reduceSub, Int.reduceNeg, Int.reduceLT, Int.reduceLE, Int.reduceEq, Int.reduceToNat, fA, e4, q1, q2, c4R, f1, f2, f3, f4, f5, q3, ll, lt, iR]
        have L1 : lowT x i = (colT x i).a % 60 := by obtain rfl : i = 0 := by omega
                                                     rw [lowT]
        have L2 : topT x i = 70 + (colT x i).b % 100 := by obtain rfl : i = 0 := by omega
                                                           rw [topT]
        refine ⟨⟨by omega, by simp only [maxLen]; omega⟩, fun _ => ?_⟩
        repeat (first | refine ⟨by kernel_rfl, ?_⟩ | refine ⟨⟨by kernel_rfl, by kernel_rfl⟩, ?_⟩ | refine ⟨⟨by kernel_rfl, by kernel_rfl, by kernel_rfl⟩, ?_⟩ | refine ⟨⟨by kernel_rfl, by kernel_rfl, by kernel_rfl, by kernel_rfl⟩, ?_⟩ | refine ⟨⟨by kernel_rfl, by kernel_rfl, by kernel_rfl, by kernel_rfl, by kernel_rfl⟩, ?_⟩ | refine ⟨⟨by kernel_rfl, by kernel_rfl, by kernel_rfl, by kernel_rfl, by kernel_rfl, by kernel_rfl⟩, ?_⟩ | refine ⟨⟨by kernel_rfl, by kernel_rfl, by kernel_rfl, by kernel_rfl, by kernel_rfl, by kernel_rfl, by kernel_rfl⟩, ?_⟩ | refine ⟨⟨by kernel_rfl, by kernel_rfl, by kernel_rfl, by kernel_rfl, by kernel_rfl, by kernel_rfl, by kernel_rfl, by kernel_rfl⟩, ?_⟩ | refine ⟨⟨by kernel_rfl, by kernel_rfl, by kernel_rfl, by kernel_rfl, by kernel_rfl, by kernel_rfl, by kernel_rfl, by kernel_rfl, by kernel_rfl⟩, ?_⟩ | refine ⟨⟨by kernel_rfl, by kernel_rfl, by kernel_rfl, by kernel_rfl, by kernel_rfl, by kernel_rfl, by kernel_rfl, by kernel_rfl, by kernel_rfl, by kernel_rfl⟩, ?_⟩ | refine ⟨⟨by kernel_rfl, by kernel_rfl, by kernel_rfl, by kernel_rfl, by kernel_rfl, by kernel_rfl, by kernel_rfl, by kernel_rfl, by kernel_rfl, by kernel_rfl, by kernel_rfl⟩, ?_⟩ | refine ⟨⟨by kernel_rfl, by kernel_rfl, by kernel_rfl, by kernel_rfl, by kernel_rfl, by kernel_rfl, by kernel_rfl, by kernel_rfl, by kernel_rfl, by kernel_rfl, by kernel_rfl, by kernel_rfl⟩, ?_⟩ | refine ⟨⟨by kernel_rfl, by kernel_rfl, by kernel_rfl, by kernel_rfl, by kernel_rfl, by kernel_rfl, by kernel_rfl, by kernel_rfl, by kernel_rfl, by kernel_rfl, by kernel_rfl, by kernel_rfl, by kernel_rfl⟩, ?_⟩)
        refine ⟨⟨by omega, by simp only [maxLen]; omega⟩, fun _ => ?_⟩
        repeat (first | refine ⟨by kernel_rfl, ?_⟩ | refine ⟨⟨by kernel_rfl, by kernel_rfl⟩, ?_⟩ | refine ⟨⟨by kernel_rfl, by kernel_rfl, by kernel_rfl⟩, ?_⟩ | refine ⟨⟨by kernel_rfl, by kernel_rfl, by kernel_rfl, by kernel_rfl⟩, ?_⟩ | refine ⟨⟨by kernel_rfl, by kernel_rfl, by kernel_rfl, by kernel_rfl, by kernel_rfl⟩, ?_⟩ | refine ⟨⟨by kernel_rfl, by kernel_rfl, by kernel_rfl, by kernel_rfl, by kernel_rfl, by kernel_rfl⟩, ?_⟩ | refine ⟨⟨by kernel_rfl, by kernel_rfl, by kernel_rfl, by kernel_rfl, by kernel_rfl, by kernel_rfl, by kernel_rfl⟩, ?_⟩ | refine ⟨⟨by kernel_rfl, by kernel_rfl, by kernel_rfl, by kernel_rfl, by kernel_rfl, by kernel_rfl, by kernel_rfl, by kernel_rfl⟩, ?_⟩ | refine ⟨⟨by kernel_rfl, by kernel_rfl, by kernel_rfl, by kernel_rfl, by kernel_rfl, by kernel_rfl, by kernel_rfl, by kernel_rfl, by kernel_rfl⟩, ?_⟩ | refine ⟨⟨by kernel_rfl, by kernel_rfl, by kernel_rfl, by kernel_rfl, by kernel_rfl, by kernel_rfl, by kernel_rfl, by kernel_rfl, by kernel_rfl, by kernel_rfl⟩, ?_⟩ | refine ⟨⟨by kernel_rfl, by kernel_rfl, by kernel_rfl, by kernel_rfl, by kernel_rfl, by kernel_rfl, by kernel_rfl, by kernel_rfl, by kernel_rfl, by kernel_rfl, by kernel_rfl⟩, ?_⟩ | refine ⟨⟨by kernel_rfl, by kernel_rfl, by kernel_rfl, by kernel_rfl, by kernel_rfl, by kernel_rfl, by kernel_rfl, by kernel_rfl, by kernel_rfl, by kernel_rfl, by kernel_rfl, by kernel_rfl⟩, ?_⟩ | refine ⟨⟨by kernel_rfl, by kernel_rfl, by kernel_rfl, by kernel_rfl, by kernel_rfl, by kernel_rfl, by kernel_rfl, by kernel_rfl, by kernel_rfl, by kernel_rfl, by kernel_rfl, by kernel_rfl, by kernel_rfl⟩, ?_⟩)
        refine hB _ ⟨i + 1, by omega⟩ [some 504, some 536] ?_ rfl ?_
        · simp only; omega
        · simp (maxSteps := 2000000) only [enA, ↓enP, Nat.reduceAdd, Nat.reduceMul, Nat.reduceSub, Nat.reduceLT, Nat.reduceLeDiff, Nat.reduceEqDiff, Nat.reduceBEq, ↓reduceIte, reduceCtorEq, fA]
          rw [lows_succ, tops_succ, L1, L2]
          simp [iR]
    · have q2 : (i < x.cols.length) = False := eq_false c2
      have hc : colT x i = ⟨7, 90, 3, 3⟩ := by unfold colT; rw [if_neg c2]
      have f1 : IntKind.i64.wrap 7 = 7 := by decide
      have f2 : (7 : Int).tmod 60 = (colT x i).a % 60 := by rw [hc]; decide
      have f3 : IntKind.i64.wrap 90 = 90 := by decide
      have f4 : (90 : Int).tmod 100 = (colT x i).b % 100 := by rw [hc]; decide
      have f5 : IntKind.i64.wrap (70 + (colT x i).b % 100) = 70 + (colT x i).b % 100 := wrap_id (by omega) (by omega)
      by_cases c3 : 0 < i
      · have q3 : ((i : Int) > 0) = True := eq_true (by omega)
        have e5 : IntKind.i64.wrap ((i : Int) - 1) = ((i - 1 : Nat) : Int) := by rw [wrap_id (by omega) (by omega)]; omega
        have e6 : nth (lowsT x i) (i - 1) = lowT x (i - 1) := low_nth (by omega)
        have e7 : nth (topsT x i) (i - 1) = topT x (i - 1) := top_nth (by omega)
        have bl := lowT_bd x (i - 1)
        have bt := topT_bd x (i - 1)
        have g1 : IntKind.i64.wrap (lowT x (i - 1) - bendT x) = lowT x (i - 1) - bendT x := wrap_id (by omega) (by omega)
        have g2 : IntKind.i64.wrap (lowT x (i - 1) + bendT x) = lowT x (i - 1) + bendT x := wrap_id (by omega) (by omega)
        have g3 : IntKind.i64.wrap (topT x (i - 1) - bendT x) = topT x (i - 1) - bendT x := wrap_id (by omega) (by omega)
        have g4 : IntKind.i64.wrap (topT x (i - 1) + bendT x) = topT x (i - 1) + bendT x := wrap_id (by omega) (by omega)
        have ii : i - 1 < i := by omega
        simp (maxSteps := 2000000) only [vcA, ↓vcP, ↓reduceIte, reduceCtorEq, Nat.reduceAdd, Nat.reduceMul, Nat.reduceSub, Nat.reduceLT, Nat.reduceLeDiff, Nat.reduceEqDiff, Nat.reduceBEq, Nat.reduceBNe, Nat.reduceGT, Nat.reduceDiv, Nat.reduceMod, Int.reduceAdd, Int.reduceSub, Int.reduceNeg, Int.reduceLT, Int.reduceLE, Int.reduceEq, Int.reduceToNat, fA, e4, q1, q2, c4R, f1, f2, f3, f4, f5, q3, e5, e6, e7, ll, lt, ii, iR, g1, g2, g3, g4]
        refine onF_data (span_spec (lowT x (i - 1) - bendT x) (lowT x (i - 1) + bendT x)) ?_ ?_
        · simp (maxSteps := 2000000) only [okA, ↓okP, Nat.reduceAdd, Nat.reduceMul, Nat.reduceSub, Nat.reduceLT, Nat.reduceLeDiff, Nat.reduceEqDiff, Nat.reduceBEq, ↓reduceIte, reduceCtorEq]
        simp (maxSteps := 2000000) only [vcA, ↓vcP, ↓reduceIte, reduceCtorEq, Nat.reduceAdd, Nat.reduceMul, Nat.reduceSub, Nat.reduceLT, Nat.reduceLeDiff, Nat.reduceEqDiff, Nat.reduceBEq, Nat.reduceBNe, Nat.reduceGT, Nat.reduceDiv, Nat.reduceMod, Int.reduceAdd, Int.reduceSub, Int.reduceNeg, Int.reduceLT, Int.reduceLE, Int.reduceEq, Int.reduceToNat, fA, e4, e5, e6, e7, ll, lt, ii, iR, f1, f2, f3, f4, f5, g3, g4]
        refine onF_data (clamp_spec ((colT x i).a % 60) (lowT x (i - 1) - bendT x, lowT x (i - 1) + bendT x)) ?_ ?_
        · simp (maxSteps := 2000000) only [okA, ↓okP, Nat.reduceAdd, Nat.reduceMul, Nat.reduceSub, Nat.reduceLT, Nat.reduceLeDiff, Nat.reduceEqDiff, Nat.reduceBEq, ↓reduceIte, reduceCtorEq]
        simp (maxSteps := 2000000) only [vcA, ↓vcP, ↓reduceIte, reduceCtorEq, Nat.reduceAdd, Nat.reduceMul, Nat.reduceSub, Nat.reduceLT, Nat.reduceLeDiff, Nat.reduceEqDiff, Nat.reduceBEq, Nat.reduceBNe, Nat.reduceGT, Nat.reduceDiv, Nat.reduceMod, Int.reduceAdd, Int.reduceSub, Int.reduceNeg, Int.reduceLT, Int.reduceLE, Int.reduceEq, Int.reduceToNat, fA, e4, e5, e6, e7, ll, lt, ii, iR, f1, f2, f3, f4, f5, g3, g4]
        refine onF_data (span_spec (topT x (i - 1) - bendT x) (topT x (i - 1) + bendT x)) ?_ ?_
        · simp (maxSteps := 2000000) only [okA, ↓okP, Nat.reduceAdd, Nat.reduceMul, Nat.reduceSub, Nat.reduceLT, Nat.reduceLeDiff, Nat.reduceEqDiff, Nat.reduceBEq, ↓reduceIte, reduceCtorEq]
        simp (maxSteps := 2000000) only [vcA, ↓vcP, ↓reduceIte, reduceCtorEq, Nat.reduceAdd, Nat.reduceMul, Nat.reduceSub, Nat.reduceLT, Nat.reduceLeDiff, Nat.reduceEqDiff, Nat.reduceBEq, Nat.reduceBNe, Nat.reduceGT, Nat.reduceDiv, Nat.reduceMod, Int.reduceAdd, Int.reduceSub, Int.reduceNeg, Int.reduceLT, Int.reduceLE, Int.reduceEq, Int.reduceToNat, fA, e4, e5, e6, e7, ll, lt, ii, iR, f1, f2, f3, f4, f5, g3, g4]
        refine onF_data (clamp_spec (70 + (colT x i).b % 100) (topT x (i - 1) - bendT x, topT x (i - 1) + bendT x)) ?_ ?_
        · simp (maxSteps := 2000000) only [okA, ↓okP, Nat.reduceAdd, Nat.reduceMul, Nat.reduceSub, Nat.reduceLT, Nat.reduceLeDiff, Nat.reduceEqDiff, Nat.reduceBEq, ↓reduceIte, reduceCtorEq]
        simp (maxSteps := 2000000) only [vcA, ↓vcP, ↓reduceIte, reduceCtorEq, Nat.reduceAdd, Nat.reduceMul, Nat.reduceSub, Nat.reduceLT, Nat.reduceLeDiff, Nat.reduceEqDiff, Nat.reduceBEq, Nat.reduceBNe, Nat.reduceGT, Nat.reduceDiv, Nat.reduceMod, Int.reduceAdd, Int.reduceSub, Int.reduceNeg, Int.reduceLT, Int.reduceLE, Int.reduceEq, Int.reduceToNat, fA, e4, e5, e6, e7, ll, lt, ii, iR, f1, f2, f3, f4, f5, g3, g4]
        have L1 : lowT x i = max (lowT x (i - 1) - bendT x) (min (lowT x (i - 1) + bendT x) ((colT x i).a % 60)) := by
          obtain ⟨j, rfl⟩ : ∃ j, i = j + 1 := ⟨i - 1, by omega⟩
          rw [lowT, Nat.add_sub_cancel]
        have L2 : topT x i = max (topT x (i - 1) - bendT x) (min (topT x (i - 1) + bendT x) (70 + (colT x i).b % 100)) := by
          obtain ⟨j, rfl⟩ : ∃ j, i = j + 1 := ⟨i - 1, by omega⟩
          rw [topT, Nat.add_sub_cancel]
        refine ⟨⟨by omega, by simp only [maxLen]; omega⟩, fun _ => ?_⟩
        repeat (first | refine ⟨by kernel_rfl, ?_⟩ | refine ⟨⟨by kernel_rfl, by kernel_rfl⟩, ?_⟩ | refine ⟨⟨by kernel_rfl, by kernel_rfl, by kernel_rfl⟩, ?_⟩ | refine ⟨⟨by kernel_rfl, by kernel_rfl, by kernel_rfl, by kernel_rfl⟩, ?_⟩ | refine ⟨⟨by kernel_rfl, by kernel_rfl, by kernel_rfl, by kernel_rfl, by kernel_rfl⟩, ?_⟩ | refine ⟨⟨by kernel_rfl, by kernel_rfl, by kernel_rfl, by kernel_rfl, by kernel_rfl, by kernel_rfl⟩, ?_⟩ | refine ⟨⟨by kernel_rfl, by kernel_rfl, by kernel_rfl, by kernel_rfl, by kernel_rfl, by kernel_rfl, by kernel_rfl⟩, ?_⟩ | refine ⟨⟨by kernel_rfl, by kernel_rfl, by kernel_rfl, by kernel_rfl, by kernel_rfl, by kernel_rfl, by kernel_rfl, by kernel_rfl⟩, ?_⟩ | refine ⟨⟨by kernel_rfl, by kernel_rfl, by kernel_rfl, by kernel_rfl, by kernel_rfl, by kernel_rfl, by kernel_rfl, by kernel_rfl, by kernel_rfl⟩, ?_⟩ | refine ⟨⟨by kernel_rfl, by kernel_rfl, by kernel_rfl, by kernel_rfl, by kernel_rfl, by kernel_rfl, by kernel_rfl, by kernel_rfl, by kernel_rfl, by kernel_rfl⟩, ?_⟩ | refine ⟨⟨by kernel_rfl, by kernel_rfl, by kernel_rfl, by kernel_rfl, by kernel_rfl, by kernel_rfl, by kernel_rfl, by kernel_rfl, by kernel_rfl, by kernel_rfl, by kernel_rfl⟩, ?_⟩ | refine ⟨⟨by kernel_rfl, by kernel_rfl, by kernel_rfl, by kernel_rfl, by kernel_rfl, by kernel_rfl, by kernel_rfl, by kernel_rfl, by kernel_rfl, by kernel_rfl, by kernel_rfl, by kernel_rfl⟩, ?_⟩ | refine ⟨⟨by kernel_rfl, by kernel_rfl, by kernel_rfl, by kernel_rfl, by kernel_rfl, by kernel_rfl, by kernel_rfl, by kernel_rfl, by kernel_rfl, by kernel_rfl, by kernel_rfl, by kernel_rfl, by kernel_rfl⟩, ?_⟩)
        refine ⟨⟨by omega, by simp only [maxLen]; omega⟩, fun _ => ?_⟩
        repeat (first | refine ⟨by kernel_rfl, ?_⟩ | refine ⟨⟨by kernel_rfl, by kernel_rfl⟩, ?_⟩ | refine ⟨⟨by kernel_rfl, by kernel_rfl, by kernel_rfl⟩, ?_⟩ | refine ⟨⟨by kernel_rfl, by kernel_rfl, by kernel_rfl, by kernel_rfl⟩, ?_⟩ | refine ⟨⟨by kernel_rfl, by kernel_rfl, by kernel_rfl, by kernel_rfl, by kernel_rfl⟩, ?_⟩ | refine ⟨⟨by kernel_rfl, by kernel_rfl, by kernel_rfl, by kernel_rfl, by kernel_rfl, by kernel_rfl⟩, ?_⟩ | refine ⟨⟨by kernel_rfl, by kernel_rfl, by kernel_rfl, by kernel_rfl, by kernel_rfl, by kernel_rfl, by kernel_rfl⟩, ?_⟩ | refine ⟨⟨by kernel_rfl, by kernel_rfl, by kernel_rfl, by kernel_rfl, by kernel_rfl, by kernel_rfl, by kernel_rfl, by kernel_rfl⟩, ?_⟩ | refine ⟨⟨by kernel_rfl, by kernel_rfl, by kernel_rfl, by kernel_rfl, by kernel_rfl, by kernel_rfl, by kernel_rfl, by kernel_rfl, by kernel_rfl⟩, ?_⟩ | refine ⟨⟨by kernel_rfl, by kernel_rfl, by kernel_rfl, by kernel_rfl, by kernel_rfl, by kernel_rfl, by kernel_rfl, by kernel_rfl, by kernel_rfl, by kernel_rfl⟩, ?_⟩ | refine ⟨⟨by kernel_rfl, by kernel_rfl, by kernel_rfl, by kernel_rfl, by kernel_rfl, by kernel_rfl, by kernel_rfl, by kernel_rfl, by kernel_rfl, by kernel_rfl, by kernel_rfl⟩, ?_⟩ | refine ⟨⟨by kernel_rfl, by kernel_rfl, by kernel_rfl, by kernel_rfl, by kernel_rfl, by kernel_rfl, by kernel_rfl, by kernel_rfl, by kernel_rfl, by kernel_rfl, by kernel_rfl, by kernel_rfl⟩, ?_⟩ | refine ⟨⟨by kernel_rfl, by kernel_rfl, by kernel_rfl, by kernel_rfl, by kernel_rfl, by kernel_rfl, by kernel_rfl, by kernel_rfl, by kernel_rfl, by kernel_rfl, by kernel_rfl, by kernel_rfl, by kernel_rfl⟩, ?_⟩)
        refine hB _ ⟨i + 1, by omega⟩ [some 744, some 776] ?_ rfl ?_
        · simp only; omega
        · simp (maxSteps := 2000000) only [enA, ↓enP, Nat.reduceAdd, Nat.reduceMul, Nat.reduceSub, Nat.reduceLT, Nat.reduceLeDiff, Nat.reduceEqDiff, Nat.reduceBEq, ↓reduceIte, reduceCtorEq, fA]
          rw [lows_succ, tops_succ, L1, L2]
          simp [iR]
      · have q3 : ((i : Int) > 0) = False := eq_false (by omega)
        simp (maxSteps := 2000000) only [vcA, ↓vcP, ↓reduceIte, reduceCtorEq, Nat.reduceAdd, Nat.reduceMul, Nat.reduceSub, Nat.reduceLT, Nat.reduceLeDiff, Nat.reduceEqDiff, Nat.reduceBEq, Nat.reduceBNe, Nat.reduceGT, Nat.reduceDiv, Nat.reduceMod, Int.reduceAdd, Int.reduceSub, Int.reduceNeg, Int.reduceLT, Int.reduceLE, Int.reduceEq, Int.reduceToNat, fA, e4, q1, q2, c4R, f1, f2, f3, f4, f5, q3, ll, lt, iR]
        have L1 : lowT x i = (colT x i).a % 60 := by obtain rfl : i = 0 := by omega
                                                     rw [lowT]
        have L2 : topT x i = 70 + (colT x i).b % 100 := by obtain rfl : i = 0 := by omega
                                                           rw [topT]
        refine ⟨⟨by omega, by simp only [maxLen]; omega⟩, fun _ => ?_⟩
        repeat (first | refine ⟨by kernel_rfl, ?_⟩ | refine ⟨⟨by kernel_rfl, by kernel_rfl⟩, ?_⟩ | refine ⟨⟨by kernel_rfl, by kernel_rfl, by kernel_rfl⟩, ?_⟩ | refine ⟨⟨by kernel_rfl, by kernel_rfl, by kernel_rfl, by kernel_rfl⟩, ?_⟩ | refine ⟨⟨by kernel_rfl, by kernel_rfl, by kernel_rfl, by kernel_rfl, by kernel_rfl⟩, ?_⟩ | refine ⟨⟨by kernel_rfl, by kernel_rfl, by kernel_rfl, by kernel_rfl, by kernel_rfl, by kernel_rfl⟩, ?_⟩ | refine ⟨⟨by kernel_rfl, by kernel_rfl, by kernel_rfl, by kernel_rfl, by kernel_rfl, by kernel_rfl, by kernel_rfl⟩, ?_⟩ | refine ⟨⟨by kernel_rfl, by kernel_rfl, by kernel_rfl, by kernel_rfl, by kernel_rfl, by kernel_rfl, by kernel_rfl, by kernel_rfl⟩, ?_⟩ | refine ⟨⟨by kernel_rfl, by kernel_rfl, by kernel_rfl, by kernel_rfl, by kernel_rfl, by kernel_rfl, by kernel_rfl, by kernel_rfl, by kernel_rfl⟩, ?_⟩ | refine ⟨⟨by kernel_rfl, by kernel_rfl, by kernel_rfl, by kernel_rfl, by kernel_rfl, by kernel_rfl, by kernel_rfl, by kernel_rfl, by kernel_rfl, by kernel_rfl⟩, ?_⟩ | refine ⟨⟨by kernel_rfl, by kernel_rfl, by kernel_rfl, by kernel_rfl, by kernel_rfl, by kernel_rfl, by kernel_rfl, by kernel_rfl, by kernel_rfl, by kernel_rfl, by kernel_rfl⟩, ?_⟩ | refine ⟨⟨by kernel_rfl, by kernel_rfl, by kernel_rfl, by kernel_rfl, by kernel_rfl, by kernel_rfl, by kernel_rfl, by kernel_rfl, by kernel_rfl, by kernel_rfl, by kernel_rfl, by kernel_rfl⟩, ?_⟩ | refine ⟨⟨by kernel_rfl, by kernel_rfl, by kernel_rfl, by kernel_rfl, by kernel_rfl, by kernel_rfl, by kernel_rfl, by kernel_rfl, by kernel_rfl, by kernel_rfl, by kernel_rfl, by kernel_rfl, by kernel_rfl⟩, ?_⟩)
        refine ⟨⟨by omega, by simp only [maxLen]; omega⟩, fun _ => ?_⟩
        repeat (first | refine ⟨by kernel_rfl, ?_⟩ | refine ⟨⟨by kernel_rfl, by kernel_rfl⟩, ?_⟩ | refine ⟨⟨by kernel_rfl, by kernel_rfl, by kernel_rfl⟩, ?_⟩ | refine ⟨⟨by kernel_rfl, by kernel_rfl, by kernel_rfl, by kernel_rfl⟩, ?_⟩ | refine ⟨⟨by kernel_rfl, by kernel_rfl, by kernel_rfl, by kernel_rfl, by kernel_rfl⟩, ?_⟩ | refine ⟨⟨by kernel_rfl, by kernel_rfl, by kernel_rfl, by kernel_rfl, by kernel_rfl, by kernel_rfl⟩, ?_⟩ | refine ⟨⟨by kernel_rfl, by kernel_rfl, by kernel_rfl, by kernel_rfl, by kernel_rfl, by kernel_rfl, by kernel_rfl⟩, ?_⟩ | refine ⟨⟨by kernel_rfl, by kernel_rfl, by kernel_rfl, by kernel_rfl, by kernel_rfl, by kernel_rfl, by kernel_rfl, by kernel_rfl⟩, ?_⟩ | refine ⟨⟨by kernel_rfl, by kernel_rfl, by kernel_rfl, by kernel_rfl, by kernel_rfl, by kernel_rfl, by kernel_rfl, by kernel_rfl, by kernel_rfl⟩, ?_⟩ | refine ⟨⟨by kernel_rfl, by kernel_rfl, by kernel_rfl, by kernel_rfl, by kernel_rfl, by kernel_rfl, by kernel_rfl, by kernel_rfl, by kernel_rfl, by kernel_rfl⟩, ?_⟩ | refine ⟨⟨by kernel_rfl, by kernel_rfl, by kernel_rfl, by kernel_rfl, by kernel_rfl, by kernel_rfl, by kernel_rfl, by kernel_rfl, by kernel_rfl, by kernel_rfl, by kernel_rfl⟩, ?_⟩ | refine ⟨⟨by kernel_rfl, by kernel_rfl, by kernel_rfl, by kernel_rfl, by kernel_rfl, by kernel_rfl, by kernel_rfl, by kernel_rfl, by kernel_rfl, by kernel_rfl, by kernel_rfl, by kernel_rfl⟩, ?_⟩ | refine ⟨⟨by kernel_rfl, by kernel_rfl, by kernel_rfl, by kernel_rfl, by kernel_rfl, by kernel_rfl, by kernel_rfl, by kernel_rfl, by kernel_rfl, by kernel_rfl, by kernel_rfl, by kernel_rfl, by kernel_rfl⟩, ?_⟩)
        refine hB _ ⟨i + 1, by omega⟩ [some 456, some 488] ?_ rfl ?_
        · simp only; omega
        · simp (maxSteps := 2000000) only [enA, ↓enP, Nat.reduceAdd, Nat.reduceMul, Nat.reduceSub, Nat.reduceLT, Nat.reduceLeDiff, Nat.reduceEqDiff, Nat.reduceBEq, ↓reduceIte, reduceCtorEq, fA]
          rw [lows_succ, tops_succ, L1, L2]
          simp [iR]
  · have q1 : ((i : Int) < 3) = False := eq_false (by omega)
    have c3 : 0 < i := by omega
    by_cases c2 : i < x.cols.length
    · have q2 : (i < x.cols.length) = True := eq_true c2
      by_cases c5 : i < 10
      · have q5 : ((i : Int) < 10) = True := eq_true (by omega)
        have hc : colT x i = nth x.cols i := by unfold colT; rw [if_pos c2]
        have f1 : IntKind.i64.wrap (nth x.cols i).a = (nth x.cols i).a := by rw [← hc]; have := hz.a; unfold By at this; exact wrap_id (by omega) (by omega)
        have f2 : (nth x.cols i).a.tmod 60 = (colT x i).a % 60 := by rw [← hc]; exact rem_of hz.a.1
        have f3 : IntKind.i64.wrap (nth x.cols i).b = (nth x.cols i).b := by rw [← hc]; have := hz.b; unfold By at this; exact wrap_id (by omega) (by omega)
        have f4 : (nth x.cols i).b.tmod 100 = (colT x i).b % 100 := by rw [← hc]; exact rem_of hz.b.1
        have f5 : IntKind.i64.wrap (70 + (colT x i).b % 100) = 70 + (colT x i).b % 100 := wrap_id (by omega) (by omega)
        have q3 : ((i : Int) > 0) = True := eq_true (by omega)
        have e5 : IntKind.i64.wrap ((i : Int) - 1) = ((i - 1 : Nat) : Int) := by rw [wrap_id (by omega) (by omega)]; omega
        have e6 : nth (lowsT x i) (i - 1) = lowT x (i - 1) := low_nth (by omega)
        have e7 : nth (topsT x i) (i - 1) = topT x (i - 1) := top_nth (by omega)
        have bl := lowT_bd x (i - 1)
        have bt := topT_bd x (i - 1)
        have g1 : IntKind.i64.wrap (lowT x (i - 1) - bendT x) = lowT x (i - 1) - bendT x := wrap_id (by omega) (by omega)
        have g2 : IntKind.i64.wrap (lowT x (i - 1) + bendT x) = lowT x (i - 1) + bendT x := wrap_id (by omega) (by omega)
        have g3 : IntKind.i64.wrap (topT x (i - 1) - bendT x) = topT x (i - 1) - bendT x := wrap_id (by omega) (by omega)
        have g4 : IntKind.i64.wrap (topT x (i - 1) + bendT x) = topT x (i - 1) + bendT x := wrap_id (by omega) (by omega)
        have ii : i - 1 < i := by omega
        simp (maxSteps := 2000000) only [vcA, ↓vcP, ↓reduceIte, reduceCtorEq, Nat.reduceAdd, Nat.reduceMul, Nat.reduceSub, Nat.reduceLT, Nat.reduceLeDiff, Nat.reduceEqDiff, Nat.reduceBEq, Nat.reduceBNe, Nat.reduceGT, Nat.reduceDiv, Nat.reduceMod, Int.reduceAdd, Int.reduceSub, Int.reduceNeg, Int.reduceLT, Int.reduceLE, Int.reduceEq, Int.reduceToNat, fA, e4, q1, q2, q5, c4R, f1, f2, f3, f4, f5, q3, e5, e6, e7, ll, lt, ii, iR, g1, g2, g3, g4]
        refine onF_data (span_spec (lowT x (i - 1) - bendT x) (lowT x (i - 1) + bendT x)) ?_ ?_
        · simp (maxSteps := 2000000) only [okA, ↓okP, Nat.reduceAdd, Nat.reduceMul, Nat.reduceSub, Nat.reduceLT, Nat.reduceLeDiff, Nat.reduceEqDiff, Nat.reduceBEq, ↓reduceIte, reduceCtorEq]
        simp (maxSteps := 2000000) only [vcA, ↓vcP, ↓reduceIte, reduceCtorEq, Nat.reduceAdd, Nat.reduceMul, Nat.reduceSub, Nat.reduceLT, Nat.reduceLeDiff, Nat.reduceEqDiff, Nat.reduceBEq, Nat.reduceBNe, Nat.reduceGT, Nat.reduceDiv, Nat.reduceMod, Int.reduceAdd, Int.reduceSub, Int.reduceNeg, Int.reduceLT, Int.reduceLE, Int.reduceEq, Int.reduceToNat, fA, e4, e5, e6, e7, ll, lt, ii, iR, f1, f2, f3, f4, f5, g3, g4]
        refine onF_data (clamp_spec ((colT x i).a % 60) (lowT x (i - 1) - bendT x, lowT x (i - 1) + bendT x)) ?_ ?_
        · simp (maxSteps := 2000000) only [okA, ↓okP, Nat.reduceAdd, Nat.reduceMul, Nat.reduceSub, Nat.reduceLT, Nat.reduceLeDiff, Nat.reduceEqDiff, Nat.reduceBEq, ↓reduceIte, reduceCtorEq]
        simp (maxSteps := 2000000) only [vcA, ↓vcP, ↓reduceIte, reduceCtorEq, Nat.reduceAdd, Nat.reduceMul, Nat.reduceSub, Nat.reduceLT, Nat.reduceLeDiff, Nat.reduceEqDiff, Nat.reduceBEq, Nat.reduceBNe, Nat.reduceGT, Nat.reduceDiv, Nat.reduceMod, Int.reduceAdd, Int.reduceSub, Int.reduceNeg, Int.reduceLT, Int.reduceLE, Int.reduceEq, Int.reduceToNat, fA, e4, e5, e6, e7, ll, lt, ii, iR, f1, f2, f3, f4, f5, g3, g4]
        refine onF_data (span_spec (topT x (i - 1) - bendT x) (topT x (i - 1) + bendT x)) ?_ ?_
        · simp (maxSteps := 2000000) only [okA, ↓okP, Nat.reduceAdd, Nat.reduceMul, Nat.reduceSub, Nat.reduceLT, Nat.reduceLeDiff, Nat.reduceEqDiff, Nat.reduceBEq, ↓reduceIte, reduceCtorEq]
        simp (maxSteps := 2000000) only [vcA, ↓vcP, ↓reduceIte, reduceCtorEq, Nat.reduceAdd, Nat.reduceMul, Nat.reduceSub, Nat.reduceLT, Nat.reduceLeDiff, Nat.reduceEqDiff, Nat.reduceBEq, Nat.reduceBNe, Nat.reduceGT, Nat.reduceDiv, Nat.reduceMod, Int.reduceAdd, Int.reduceSub, Int.reduceNeg, Int.reduceLT, Int.reduceLE, Int.reduceEq, Int.reduceToNat, fA, e4, e5, e6, e7, ll, lt, ii, iR, f1, f2, f3, f4, f5, g3, g4]
        refine onF_data (clamp_spec (70 + (colT x i).b % 100) (topT x (i - 1) - bendT x, topT x (i - 1) + bendT x)) ?_ ?_
        · simp (maxSteps := 2000000) only [okA, ↓okP, Nat.reduceAdd, Nat.reduceMul, Nat.reduceSub, Nat.reduceLT, Nat.reduceLeDiff, Nat.reduceEqDiff, Nat.reduceBEq, ↓reduceIte, reduceCtorEq]
        simp (maxSteps := 2000000) only [vcA, ↓vcP, ↓reduceIte, reduceCtorEq, Nat.reduceAdd, Nat.reduceMul, Nat.reduceSub, Nat.reduceLT, Nat.reduceLeDiff, Nat.reduceEqDiff, Nat.reduceBEq, Nat.reduceBNe, Nat.reduceGT, Nat.reduceDiv, Nat.reduceMod, Int.reduceAdd, Int.reduceSub, Int.reduceNeg, Int.reduceLT, Int.reduceLE, Int.reduceEq, Int.reduceToNat, fA, e4, e5, e6, e7, ll, lt, ii, iR, f1, f2, f3, f4, f5, g3, g4]
        have L1 : lowT x i = max (lowT x (i - 1) - bendT x) (min (lowT x (i - 1) + bendT x) ((colT x i).a % 60)) := by
          obtain ⟨j, rfl⟩ : ∃ j, i = j + 1 := ⟨i - 1, by omega⟩
          rw [lowT, Nat.add_sub_cancel]
        have L2 : topT x i = max (topT x (i - 1) - bendT x) (min (topT x (i - 1) + bendT x) (70 + (colT x i).b % 100)) := by
          obtain ⟨j, rfl⟩ : ∃ j, i = j + 1 := ⟨i - 1, by omega⟩
          rw [topT, Nat.add_sub_cancel]
        refine ⟨⟨by omega, by simp only [maxLen]; omega⟩, fun _ => ?_⟩
        repeat (first | refine ⟨by kernel_rfl, ?_⟩ | refine ⟨⟨by kernel_rfl, by kernel_rfl⟩, ?_⟩ | refine ⟨⟨by kernel_rfl, by kernel_rfl, by kernel_rfl⟩, ?_⟩ | refine ⟨⟨by kernel_rfl, by kernel_rfl, by kernel_rfl, by kernel_rfl⟩, ?_⟩ | refine ⟨⟨by kernel_rfl, by kernel_rfl, by kernel_rfl, by kernel_rfl, by kernel_rfl⟩, ?_⟩ | refine ⟨⟨by kernel_rfl, by kernel_rfl, by kernel_rfl, by kernel_rfl, by kernel_rfl, by kernel_rfl⟩, ?_⟩ | refine ⟨⟨by kernel_rfl, by kernel_rfl, by kernel_rfl, by kernel_rfl, by kernel_rfl, by kernel_rfl, by kernel_rfl⟩, ?_⟩ | refine ⟨⟨by kernel_rfl, by kernel_rfl, by kernel_rfl, by kernel_rfl, by kernel_rfl, by kernel_rfl, by kernel_rfl, by kernel_rfl⟩, ?_⟩ | refine ⟨⟨by kernel_rfl, by kernel_rfl, by kernel_rfl, by kernel_rfl, by kernel_rfl, by kernel_rfl, by kernel_rfl, by kernel_rfl, by kernel_rfl⟩, ?_⟩ | refine ⟨⟨by kernel_rfl, by kernel_rfl, by kernel_rfl, by kernel_rfl, by kernel_rfl, by kernel_rfl, by kernel_rfl, by kernel_rfl, by kernel_rfl, by kernel_rfl⟩, ?_⟩ | refine ⟨⟨by kernel_rfl, by kernel_rfl, by kernel_rfl, by kernel_rfl, by kernel_rfl, by kernel_rfl, by kernel_rfl, by kernel_rfl, by kernel_rfl, by kernel_rfl, by kernel_rfl⟩, ?_⟩ | refine ⟨⟨by kernel_rfl, by kernel_rfl, by kernel_rfl, by kernel_rfl, by kernel_rfl, by kernel_rfl, by kernel_rfl, by kernel_rfl, by kernel_rfl, by kernel_rfl, by kernel_rfl, by kernel_rfl⟩, ?_⟩ | refine ⟨⟨by kernel_rfl, by kernel_rfl, by kernel_rfl, by kernel_rfl, by kernel_rfl, by kernel_rfl, by kernel_rfl, by kernel_rfl, by kernel_rfl, by kernel_rfl, by kernel_rfl, by kernel_rfl, by kernel_rfl⟩, ?_⟩)
        refine ⟨⟨by omega, by simp only [maxLen]; omega⟩, fun _ => ?_⟩
        repeat (first | refine ⟨by kernel_rfl, ?_⟩ | refine ⟨⟨by kernel_rfl, by kernel_rfl⟩, ?_⟩ | refine ⟨⟨by kernel_rfl, by kernel_rfl, by kernel_rfl⟩, ?_⟩ | refine ⟨⟨by kernel_rfl, by kernel_rfl, by kernel_rfl, by kernel_rfl⟩, ?_⟩ | refine ⟨⟨by kernel_rfl, by kernel_rfl, by kernel_rfl, by kernel_rfl, by kernel_rfl⟩, ?_⟩ | refine ⟨⟨by kernel_rfl, by kernel_rfl, by kernel_rfl, by kernel_rfl, by kernel_rfl, by kernel_rfl⟩, ?_⟩ | refine ⟨⟨by kernel_rfl, by kernel_rfl, by kernel_rfl, by kernel_rfl, by kernel_rfl, by kernel_rfl, by kernel_rfl⟩, ?_⟩ | refine ⟨⟨by kernel_rfl, by kernel_rfl, by kernel_rfl, by kernel_rfl, by kernel_rfl, by kernel_rfl, by kernel_rfl, by kernel_rfl⟩, ?_⟩ | refine ⟨⟨by kernel_rfl, by kernel_rfl, by kernel_rfl, by kernel_rfl, by kernel_rfl, by kernel_rfl, by kernel_rfl, by kernel_rfl, by kernel_rfl⟩, ?_⟩ | refine ⟨⟨by kernel_rfl, by kernel_rfl, by kernel_rfl, by kernel_rfl, by kernel_rfl, by kernel_rfl, by kernel_rfl, by kernel_rfl, by kernel_rfl, by kernel_rfl⟩, ?_⟩ | refine ⟨⟨by kernel_rfl, by kernel_rfl, by kernel_rfl, by kernel_rfl, by kernel_rfl, by kernel_rfl, by kernel_rfl, by kernel_rfl, by kernel_rfl, by kernel_rfl, by kernel_rfl⟩, ?_⟩ | refine ⟨⟨by kernel_rfl, by kernel_rfl, by kernel_rfl, by kernel_rfl, by kernel_rfl, by kernel_rfl, by kernel_rfl, by kernel_rfl, by kernel_rfl, by kernel_rfl, by kernel_rfl, by kernel_rfl⟩, ?_⟩ | refine ⟨⟨by kernel_rfl, by kernel_rfl, by kernel_rfl, by kernel_rfl, by kernel_rfl, by kernel_rfl, by kernel_rfl, by kernel_rfl, by kernel_rfl, by kernel_rfl, by kernel_rfl, by kernel_rfl, by kernel_rfl⟩, ?_⟩)
        refine hB _ ⟨i + 1, by omega⟩ [some 792, some 824] ?_ rfl ?_
        · simp only; omega
        · simp (maxSteps := 2000000) only [enA, ↓enP, Nat.reduceAdd, Nat.reduceMul, Nat.reduceSub, Nat.reduceLT, Nat.reduceLeDiff, Nat.reduceEqDiff, Nat.reduceBEq, ↓reduceIte, reduceCtorEq, fA]
          rw [lows_succ, tops_succ, L1, L2]
          simp [iR]
      · have q5 : ((i : Int) < 10) = False := eq_false (by omega)
        simp (maxSteps := 2000000) only [vcA, ↓vcP, ↓reduceIte, reduceCtorEq, Nat.reduceAdd, Nat.reduceMul, Nat.reduceSub, Nat.reduceLT, Nat.reduceLeDiff, Nat.reduceEqDiff, Nat.reduceBEq, Nat.reduceBNe, Nat.reduceGT, Nat.reduceDiv, Nat.reduceMod, Int.reduceAdd, Int.reduceSub, Int.reduceNeg, Int.reduceLT, Int.reduceLE, Int.reduceEq, Int.reduceToNat, fA, e4, q1, q2, q5]
        have hn : i = numT x := by omega
        subst hn
        refine hR _ (fin_of1 [some 128, some 129] ?_)
        simp (maxSteps := 2000000) only [enA, ↓enP, Nat.reduceAdd, Nat.reduceMul, Nat.reduceSub, Nat.reduceLT, Nat.reduceLeDiff, Nat.reduceEqDiff, Nat.reduceBEq, ↓reduceIte, reduceCtorEq, fA]
    · have q2 : (i < x.cols.length) = False := eq_false c2
      simp (maxSteps := 2000000) only [vcA, ↓vcP, ↓reduceIte, reduceCtorEq, Nat.reduceAdd, Nat.reduceMul, Nat.reduceSub, Nat.reduceLT, Nat.reduceLeDiff, Nat.reduceEqDiff, Nat.reduceBEq, Nat.reduceBNe, Nat.reduceGT, Nat.reduceDiv, Nat.reduceMod, Int.reduceAdd, Int.reduceSub, Int.reduceNeg, Int.reduceLT, Int.reduceLE, Int.reduceEq, Int.reduceToNat, fA, e4, q1, q2]
      have hn : i = numT x := by omega
      subst hn
      refine hR _ (fin_of1 [some 128, some 129] ?_)
      simp (maxSteps := 2000000) only [enA, ↓enP, Nat.reduceAdd, Nat.reduceMul, Nat.reduceSub, Nat.reduceLT, Nat.reduceLeDiff, Nat.reduceEqDiff, Nat.reduceBEq, ↓reduceIte, reduceCtorEq, fA]
def crackT (c : C6) (n : Int) : Crk := ⟨(c.a % n, min (n - 1) (c.a % n + c.c % 4)), (c.b % 140, c.b % 140 + c.d % 20), (c.b % 140 + c.d % 20 + c.e % 40, c.b % 140 + c.d % 20 + c.e % 40 + c.f % 20)⟩
def pickT (c : C6) (n : Int) : Int × Int × Int := (c.a % n + c.f % (min (n - 1) (c.a % n + c.c % 4) - c.a % n + 1), c.b % 140 + c.e % (c.d % 20 + 1), c.b % 140 + c.d % 20 + c.e % 40 + c.b % (c.f % 20 + 1))
def tkL (x : Tk) : List AV := [.sl 4 (x.cols.map c4R), .v (.int .u8 x.bend), .sl 6 (x.cracks.map c6R), .v (.int .u8 x.saw.a), .v (.int .u8 x.saw.b), .v (.int .u8 x.saw.c), .v (.int .u8 x.saw.d)]
set_option maxHeartbeats 4000000 in
theorem crack_spec (x : Tk) (hx : x.Ok) (i : Nat) (hi : i < x.cracks.length) (n : Nat) (hn : 1 ≤ n ∧ n ≤ 100) : SpecF Try.prog 54 [.agg [.sl 4 (x.cols.map c4R), .v (.int .u8 x.bend), .sl 6 (x.cracks.map c6R), .v (.int .u8 x.saw.a), .v (.int .u8 x.saw.b), .v (.int .u8 x.saw.c), .v (.int .u8 x.saw.d)], .v (.int .i64 i), .v (.int .i64 n)]
    (.tup [.agg [.v (.int .i64 (crackT (nth x.cracks i) n).col.1), .v (.int .i64 (crackT (nth x.cracks i) n).col.2), .v (.int .i64 (crackT (nth x.cracks i) n).frm.1), .v (.int .i64 (crackT (nth x.cracks i) n).frm.2), .v (.int .i64 (crackT (nth x.cracks i) n).to.1), .v (.int .i64 (crackT (nth x.cracks i) n).to.2)], .agg [.v (.int .i64 (pickT (nth x.cracks i) n).1), .v (.int .i64 (pickT (nth x.cracks i) n).2.1), .v (.int .i64 (pickT (nth x.cracks i) n).2.2)]]) [] := by
  have hq := hx.cracks _ (nth_mem hi)
  have qi : (i < x.cracks.length) = True := eq_true hi
  generalize hcc : nth x.cracks i = z at hq
  obtain ⟨ca, cb, cc, cd, ce, cf⟩ := z
  obtain ⟨ha, hb, hc, hd, he, hf⟩ := hq
  unfold By at ha hb hc hd he hf
  simp only at ha hb hc hd he hf
  have n0 : (0 : Int) < n := by omega
  have m1 := Int.emod_nonneg ca (show (n : Int) ≠ 0 by omega)
  have m2 := Int.emod_lt_of_pos ca n0
  have wa : IntKind.i64.wrap ca = ca := wrap_id (by omega) (by omega)
  have wb : IntKind.i64.wrap cb = cb := wrap_id (by omega) (by omega)
  have wc : IntKind.i64.wrap cc = cc := wrap_id (by omega) (by omega)
  have wd : IntKind.i64.wrap cd = cd := wrap_id (by omega) (by omega)
  have we : IntKind.i64.wrap ce = ce := wrap_id (by omega) (by omega)
  have wf : IntKind.i64.wrap cf = cf := wrap_id (by omega) (by omega)
  have ra : ca.tmod (n : Int) = ca % n := rem_of (by omega)
  have rb : cb.tmod 140 = cb % 140 := rem_of (by omega)
  have rc : cc.tmod 4 = cc % 4 := rem_of (by omega)
  have rd : cd.tmod 20 = cd % 20 := rem_of (by omega)
  have re : ce.tmod 40 = ce % 40 := rem_of (by omega)
  have rf : cf.tmod 20 = cf % 20 := rem_of (by omega)
  have nz : ((n : Int) = 0) = False := eq_false (by omega)
  have s1 : IntKind.i64.wrap ((n : Int) - 1) = (n : Int) - 1 := wrap_id (by omega) (by omega)
  have s2 : IntKind.i64.wrap (ca % n + cc % 4) = ca % n + cc % 4 := wrap_id (by omega) (by omega)
  have s3 : IntKind.i64.wrap (cb % 140 + cd % 20) = cb % 140 + cd % 20 := wrap_id (by omega) (by omega)
  have s4 : IntKind.i64.wrap (cb % 140 + cd % 20 + ce % 40) = cb % 140 + cd % 20 + ce % 40 := wrap_id (by omega) (by omega)
  have s5 : IntKind.i64.wrap (cb % 140 + cd % 20 + ce % 40 + cf % 20) = cb % 140 + cd % 20 + ce % 40 + cf % 20 := wrap_id (by omega) (by omega)
  have k1 : 0 ≤ min ((n : Int) - 1) (ca % n + cc % 4) - ca % n := by omega
  have k2 := Int.emod_nonneg cf (show min ((n : Int) - 1) (ca % n + cc % 4) - ca % n + 1 ≠ 0 by omega)
  have k3 := Int.emod_lt_of_pos cf (show 0 < min ((n : Int) - 1) (ca % n + cc % 4) - ca % n + 1 by omega)
  have k4 := Int.emod_nonneg ce (show cd % 20 + 1 ≠ 0 by omega)
  have k5 := Int.emod_lt_of_pos ce (show 0 < cd % 20 + 1 by omega)
  have k6 := Int.emod_nonneg cb (show cf % 20 + 1 ≠ 0 by omega)
  have k7 := Int.emod_lt_of_pos cb (show 0 < cf % 20 + 1 by omega)
  have u1 : IntKind.i64.wrap (min ((n : Int) - 1) (ca % n + cc % 4) - ca % n) = min ((n : Int) - 1) (ca % n + cc % 4) - ca % n := wrap_id (by omega) (by omega)
  have u2 : IntKind.i64.wrap (min ((n : Int) - 1) (ca % n + cc % 4) - ca % n + 1) = min ((n : Int) - 1) (ca % n + cc % 4) - ca % n + 1 := wrap_id (by omega) (by omega)
  have u3 : cf.tmod (min ((n : Int) - 1) (ca % n + cc % 4) - ca % n + 1) = cf % (min ((n : Int) - 1) (ca % n + cc % 4) - ca % n + 1) := rem_of (by omega)
  have u4 : IntKind.i64.wrap (ca % n + cf % (min ((n : Int) - 1) (ca % n + cc % 4) - ca % n + 1)) = ca % n + cf % (min ((n : Int) - 1) (ca % n + cc % 4) - ca % n + 1) := wrap_id (by omega) (by omega)
  have z1 : (min ((n : Int) - 1) (ca % n + cc % 4) - ca % n + 1 = 0) = False := eq_false (by omega)
  have v1 : IntKind.i64.wrap (cb % 140 + cd % 20 - cb % 140) = cd % 20 := by rw [wrap_id (by omega) (by omega)]; omega
  have v2 : IntKind.i64.wrap (cd % 20 + 1) = cd % 20 + 1 := wrap_id (by omega) (by omega)
  have v3 : ce.tmod (cd % 20 + 1) = ce % (cd % 20 + 1) := rem_of (by omega)
  have v4 : IntKind.i64.wrap (cb % 140 + ce % (cd % 20 + 1)) = cb % 140 + ce % (cd % 20 + 1) := wrap_id (by omega) (by omega)
  have z2 : (cd % 20 + 1 = 0) = False := eq_false (by omega)
  have w1 : IntKind.i64.wrap (cb % 140 + cd % 20 + ce % 40 + cf % 20 - (cb % 140 + cd % 20 + ce % 40)) = cf % 20 := by rw [wrap_id (by omega) (by omega)]; omega
  have w2 : IntKind.i64.wrap (cf % 20 + 1) = cf % 20 + 1 := wrap_id (by omega) (by omega)
  have w3 : cb.tmod (cf % 20 + 1) = cb % (cf % 20 + 1) := rem_of (by omega)
  have w4 : IntKind.i64.wrap (cb % 140 + cd % 20 + ce % 40 + cb % (cf % 20 + 1)) = cb % 140 + cd % 20 + ce % 40 + cb % (cf % 20 + 1) := wrap_id (by omega) (by omega)
  have z3 : (cf % 20 + 1 = 0) = False := eq_false (by omega)
  refine spec_go (N := 114) (rs := [.cell 6 100, .cell 7 113]) (eq := eqs) rfl rfl fun_54 rfl (by kernel_rfl) (by kernel_rfl) (by simp) (by simp) (by simp) (by simp) fun R hR => ?_
  simp (maxSteps := 2000000) only [vcA, ↓vcP, ↓reduceIte, reduceCtorEq, Nat.reduceAdd, Nat.reduceMul, Nat.reduceSub, Nat.reduceLT, Nat.reduceLeDiff, Nat.reduceEqDiff, Nat.reduceBEq, Nat.reduceBNe, Nat.reduceGT, Nat.reduceDiv, Nat.reduceMod, Int.reduceAdd, Int.reduceSub, Int.reduceNeg, Int.reduceLT, Int.reduceLE, Int.reduceEq, Int.reduceToNat, fA, qi, hcc, c6R, wa, wb, wc, wd, we, wf, ra, rb, rc, rd, re, rf, nz, s1, s2, s3, s4, s5]
  refine onF_data (span_spec (ca % n) (min ((n : Int) - 1) (ca % n + cc % 4))) ?_ ?_
  · simp (maxSteps := 2000000) only [okA, ↓okP, Nat.reduceAdd, Nat.reduceMul, Nat.reduceSub, Nat.reduceLT, Nat.reduceLeDiff, Nat.reduceEqDiff, Nat.reduceBEq, ↓reduceIte, reduceCtorEq]
  simp (maxSteps := 2000000) only [vcA, ↓vcP, ↓reduceIte, reduceCtorEq, Nat.reduceAdd, Nat.reduceMul, Nat.reduceSub, Nat.reduceLT, Nat.reduceLeDiff, Nat.reduceEqDiff, Nat.reduceBEq, Nat.reduceBNe, Nat.reduceGT, Nat.reduceDiv, Nat.reduceMod, Int.reduceAdd, Int.reduceSub, Int.reduceNeg, Int.reduceLT, Int.reduceLE, Int.reduceEq, Int.reduceToNat, fA, wd, rd, s3]
  refine onF_data (span_spec (cb % 140) (cb % 140 + cd % 20)) ?_ ?_
  · simp (maxSteps := 2000000) only [okA, ↓okP, Nat.reduceAdd, Nat.reduceMul, Nat.reduceSub, Nat.reduceLT, Nat.reduceLeDiff, Nat.reduceEqDiff, Nat.reduceBEq, ↓reduceIte, reduceCtorEq]
  simp (maxSteps := 2000000) only [vcA, ↓vcP, ↓reduceIte, reduceCtorEq, Nat.reduceAdd, Nat.reduceMul, Nat.reduceSub, Nat.reduceLT, Nat.reduceLeDiff, Nat.reduceEqDiff, Nat.reduceBEq, Nat.reduceBNe, Nat.reduceGT, Nat.reduceDiv, Nat.reduceMod, Int.reduceAdd, Int.reduceSub, Int.reduceNeg, Int.reduceLT, Int.reduceLE, Int.reduceEq, Int.reduceToNat, fA, we, re, s4, wf, rf, s5]
  repeat (first | refine ⟨by kernel_rfl, ?_⟩ | refine ⟨⟨by kernel_rfl, by kernel_rfl⟩, ?_⟩ | refine ⟨⟨by kernel_rfl, by kernel_rfl, by kernel_rfl⟩, ?_⟩ | refine ⟨⟨by kernel_rfl, by kernel_rfl, by kernel_rfl, by kernel_rfl⟩, ?_⟩ | refine ⟨⟨by kernel_rfl, by kernel_rfl, by kernel_rfl, by kernel_rfl, by kernel_rfl⟩, ?_⟩ | refine ⟨⟨by kernel_rfl, by kernel_rfl, by kernel_rfl, by kernel_rfl, by kernel_rfl, by kernel_rfl⟩, ?_⟩ | refine ⟨⟨by kernel_rfl, by kernel_rfl, by kernel_rfl, by kernel_rfl, by kernel_rfl, by kernel_rfl, by kernel_rfl⟩, ?_⟩ | refine ⟨⟨by kernel_rfl, by kernel_rfl, by kernel_rfl, by kernel_rfl, by kernel_rfl, by kernel_rfl, by kernel_rfl, by kernel_rfl⟩, ?_⟩ | refine ⟨⟨by kernel_rfl, by kernel_rfl, by kernel_rfl, by kernel_rfl, by kernel_rfl, by kernel_rfl, by kernel_rfl, by kernel_rfl, by kernel_rfl⟩, ?_⟩ | refine ⟨⟨by kernel_rfl, by kernel_rfl, by kernel_rfl, by kernel_rfl, by kernel_rfl, by kernel_rfl, by kernel_rfl, by kernel_rfl, by kernel_rfl, by kernel_rfl⟩, ?_⟩ | refine ⟨⟨by kernel_rfl, by kernel_rfl, by kernel_rfl, by kernel_rfl, by kernel_rfl, by kernel_rfl, by kernel_rfl, by kernel_rfl, by kernel_rfl, by kernel_rfl, by kernel_rfl⟩, ?_⟩ | refine ⟨⟨by kernel_rfl, by kernel_rfl, by kernel_rfl, by kernel_rfl, by kernel_rfl, by kernel_rfl, by kernel_rfl, by kernel_rfl, by kernel_rfl, by kernel_rfl, by kernel_rfl, by kernel_rfl⟩, ?_⟩ | refine ⟨⟨by kernel_rfl, by kernel_rfl, by kernel_rfl, by kernel_rfl, by kernel_rfl, by kernel_rfl, by kernel_rfl, by kernel_rfl, by kernel_rfl, by kernel_rfl, by kernel_rfl, by kernel_rfl, by kernel_rfl⟩, ?_⟩)
  refine onF_data (span_spec (cb % 140 + cd % 20 + ce % 40) (cb % 140 + cd % 20 + ce % 40 + cf % 20)) ?_ ?_
  · simp (maxSteps := 2000000) only [okA, ↓okP, Nat.reduceAdd, Nat.reduceMul, Nat.reduceSub, Nat.reduceLT, Nat.reduceLeDiff, Nat.reduceEqDiff, Nat.reduceBEq, ↓reduceIte, reduceCtorEq]
  simp (maxSteps := 2000000) only [vcA, ↓vcP, ↓reduceIte, reduceCtorEq, Nat.reduceAdd, Nat.reduceMul, Nat.reduceSub, Nat.reduceLT, Nat.reduceLeDiff, Nat.reduceEqDiff, Nat.reduceBEq, Nat.reduceBNe, Nat.reduceGT, Nat.reduceDiv, Nat.reduceMod, Int.reduceAdd, Int.reduceSub, Int.reduceNeg, Int.reduceLT, Int.reduceLE, Int.reduceEq, Int.reduceToNat, fA, wf, we, wb, u1, u2, u3, u4, v1, v2, v3, v4, z1, z2, z3, w1, w2, w3, w4]
  refine hR _ (fin_of0 ?_)
  simp (maxSteps := 2000000) only [enA, ↓enP, Nat.reduceAdd, Nat.reduceMul, Nat.reduceSub, Nat.reduceLT, Nat.reduceLeDiff, Nat.reduceEqDiff, Nat.reduceBEq, ↓reduceIte, reduceCtorEq, fA]
  exact ⟨⟨rfl, rfl, rfl, rfl, rfl, rfl⟩, rfl, rfl, rfl⟩
def botT (x : Tk) (i : Nat) : Sp := (max 0 (lowT x i - (colT x i).c % 9), min 65 (lowT x i + (colT x i).c / 16))
def tpT (x : Tk) (i : Nat) : Sp := (max 66 (topT x i - (colT x i).d % 9), topT x i + (colT x i).d / 16)
def botsT (x : Tk) (n : Nat) : List Sp := (List.range n).map (botT x)
def tpsT (x : Tk) (n : Nat) : List Sp := (List.range n).map (tpT x)
def pk3 (p : Int × Int × Int) : List DV := [.v (.int .i64 p.1), .v (.int .i64 p.2.1), .v (.int .i64 p.2.2)]
def crksT (x : Tk) (m : Nat) : List Crk := (List.range m).map fun i => crackT (nth x.cracks i) (numT x)
def pksT (x : Tk) (m : Nat) : List (Int × Int × Int) := (List.range m).map fun i => pickT (nth x.cracks i) (numT x)
def numC (x : Tk) : Nat := min x.cracks.length 3
def blT (x : Tk) : Bl := ⟨botsT x (numT x), tpsT x (numT x), bendT x, crksT x (numC x)⟩
def swT (x : Tk) : Sw := ⟨1 + x.saw.a % 4, 8 + x.saw.b % 40, x.saw.c % 6, x.saw.d % 3⟩
theorem lows_len (x : Tk) (n : Nat) : (lowsT x n).length = n := by simp [lowsT]
theorem tops_len (x : Tk) (n : Nat) : (topsT x n).length = n := by simp [topsT]
theorem bots_succ (x : Tk) (n : Nat) : botsT x (n + 1) = botsT x n ++ [botT x n] := by unfold botsT; rw [List.range_succ, List.map_append]; rfl
theorem tps_succ (x : Tk) (n : Nat) : tpsT x (n + 1) = tpsT x n ++ [tpT x n] := by unfold tpsT; rw [List.range_succ, List.map_append]; rfl
theorem crks_succ (x : Tk) (n : Nat) : crksT x (n + 1) = crksT x n ++ [crackT (nth x.cracks n) (numT x)] := by unfold crksT; rw [List.range_succ, List.map_append]; rfl
theorem pks_succ (x : Tk) (n : Nat) : pksT x (n + 1) = pksT x n ++ [pickT (nth x.cracks n) (numT x)] := by unfold pksT; rw [List.range_succ, List.map_append]; rfl
set_option maxHeartbeats 4000000 in
theorem tusk_spec (x : Tk) (hx : x.Ok) : SpecF Try.prog 21 [.agg [.sl 4 (x.cols.map c4R), .v (.int .u8 x.bend), .sl 6 (x.cracks.map c6R), .v (.int .u8 x.saw.a), .v (.int .u8 x.saw.b), .v (.int .u8 x.saw.c), .v (.int .u8 x.saw.d)]]
    (.tup [.agg [.sl 2 ((blT x).bottom.map spR), .sl 2 ((blT x).top.map spR), .v (.int .i64 (bendT x)), .sl 6 ((blT x).cracks.map crR)], .agg [.v (.int .i64 (swT x).long), .v (.int .i64 (swT x).wide), .v (.int .i64 (swT x).kerf), .v (.int .i64 (swT x).across)], .agg [.sl 1 ((lowsT x (numT x)).map iR), .sl 1 ((topsT x (numT x)).map iR), .sl 3 ((pksT x (numC x)).map pk3)]]) [] := by
  refine SpecG.frz (r := .tup [.agg [.ob 0 (numT x), .ob 1 (numT x), .v (.int .i64 (bendT x)), .ob 2 (numC x)], .agg [.v (.int .i64 (swT x).long), .v (.int .i64 (swT x).wide), .v (.int .i64 (swT x).kerf), .v (.int .i64 (swT x).across)], .agg [.sl 1 ((lowsT x (numT x)).map iR), .sl 1 ((topsT x (numT x)).map iR), .ob 3 (numC x)]]) (objs := [.row 85 2 ((blT x).bottom.map spR) false, .row 85 2 ((blT x).top.map spR) false, .row 100 6 ((blT x).cracks.map crR) false, .row 113 3 ((pksT x (numC x)).map pk3) false]) ?_
  have hN : numT x = max 3 (min x.cols.length 10) := rfl
  have ll : ∀ n, (lowsT x n).length = n := lows_len x
  have lt : ∀ n, (topsT x n).length = n := tops_len x
  refine spec_go (N := 190) (rs := [.cell 2 25, .cell 3 27, .cell 4 59]) (eq := eqs) rfl rfl fun_21 rfl (by kernel_rfl) (by kernel_rfl) (by simp) (by simp) (by simp) (by simp) fun R hR => ?_
  simp (maxSteps := 2000000) only [vcA, ↓vcP, ↓reduceIte, reduceCtorEq, Nat.reduceAdd, Nat.reduceMul, Nat.reduceSub, Nat.reduceLT, Nat.reduceLeDiff, Nat.reduceEqDiff, Nat.reduceBEq, Nat.reduceBNe, Nat.reduceGT, Nat.reduceDiv, Nat.reduceMod, Int.reduceAdd, Int.reduceSub, Int.reduceNeg, Int.reduceLT, Int.reduceLE, Int.reduceEq, Int.reduceToNat, fA]
  refine onF_data (truth_spec x hx) ?_ ?_
  · simp (maxSteps := 2000000) only [okA, ↓okP, Nat.reduceAdd, Nat.reduceMul, Nat.reduceSub, Nat.reduceLT, Nat.reduceLeDiff, Nat.reduceEqDiff, Nat.reduceBEq, ↓reduceIte, reduceCtorEq]
  simp (maxSteps := 2000000) only [vcA, ↓vcP, ↓reduceIte, reduceCtorEq, Nat.reduceAdd, Nat.reduceMul, Nat.reduceSub, Nat.reduceLT, Nat.reduceLeDiff, Nat.reduceEqDiff, Nat.reduceBEq, Nat.reduceBNe, Nat.reduceGT, Nat.reduceDiv, Nat.reduceMod, Int.reduceAdd, Int.reduceSub, Int.reduceNeg, Int.reduceLT, Int.reduceLE, Int.reduceEq, Int.reduceToNat, fA]
  refine goC_loop (α := {i : Nat // i ≤ numT x}) (fun y => ⟨[(1, .ptr 8 0), (2, .ptr 16 0), (3, .ptr 24 0), (4, .ptr 32 0), (5, .sl 1 ((lowsT x (numT x)).map iR)), (6, .sl 1 ((topsT x (numT x)).map iR)), (8, .ptr 152 0), (9, .ptr 160 0), (10, .v (.int .i64 y.1))], [(8, .box 55 [.sl 4 (x.cols.map c4R), .v (.int .u8 x.bend), .sl 6 (x.cracks.map c6R), .v (.int .u8 x.saw.a), .v (.int .u8 x.saw.b), .v (.int .u8 x.saw.c), .v (.int .u8 x.saw.d)]), (16, .box 25 [.v (.slice none 0 0), .v (.slice none 0 0), .v (.int .i64 0), .v (.slice none 0 0)]), (24, .box 27 [.v (.int .i64 0), .v (.int .i64 0), .v (.int .i64 0), .v (.int .i64 0)]), (32, .box 59 [.v (.slice none 0 0), .v (.slice none 0 0), .v (.slice none 0 0)]), (152, .box 25 [.ob 192 y.1, .ob 193 y.1, .v (.int .i64 (bendT x)), .v (.slice none 0 0)]), (160, .box 59 [.sl 1 ((lowsT x (numT x)).map iR), .sl 1 ((topsT x (numT x)).map iR), .v (.slice none 0 0)]), (192, .row 85 2 ((botsT x y.1).map spR) false), (193, .row 85 2 ((tpsT x y.1).map spR) false)]⟩) (fun y => numT x - y.1) ⟨0, by omega⟩ [none, none] ?_ ?_
  · simp (maxSteps := 2000000) only [enA, ↓enP, Nat.reduceAdd, Nat.reduceMul, Nat.reduceSub, Nat.reduceLT, Nat.reduceLeDiff, Nat.reduceEqDiff, Nat.reduceBEq, ↓reduceIte, reduceCtorEq, fA]
    exact ⟨rfl, rfl, rfl⟩
  intro y B hB
  obtain ⟨i, hi⟩ := y
  have e4 : IntKind.i64.wrap ((i : Int) + 1) = ((i + 1 : Nat) : Int) := wrap_id (by omega) (by omega)
  have hz := colT_ok hx i
  by_cases c1 : i < numT x
  · have q1 : (i < numT x) = True := eq_true c1
    have e6 : nth (lowsT x (numT x)) i = lowT x i := low_nth c1
    have e7 : nth (topsT x (numT x)) i = topT x i := top_nth c1
    have bl := lowT_bd x i
    have bt := topT_bd x i
    have l1 : (botsT x i).length = i := by simp [botsT]
    have l2 : (tpsT x i).length = i := by simp [tpsT]
    by_cases c2 : i < x.cols.length
    · have hc : colT x i = nth x.cols i := by unfold colT; rw [if_pos c2]
      have q2 : (i < x.cols.length) = True := eq_true c2
      have f1 : IntKind.i64.wrap (nth x.cols i).c = (nth x.cols i).c := by rw [← hc]; have := hz.c; unfold By at this; exact wrap_id (by omega) (by omega)
      have f2 : (nth x.cols i).c.tmod 9 = (colT x i).c % 9 := by rw [← hc]; exact rem_of hz.c.1
      have f3 : (nth x.cols i).c.tdiv 16 = (colT x i).c / 16 := by rw [← hc]; exact quo_of hz.c.1
      have f4 : IntKind.i64.wrap (nth x.cols i).d = (nth x.cols i).d := by rw [← hc]; have := hz.d; unfold By at this; exact wrap_id (by omega) (by omega)
      have f5 : (nth x.cols i).d.tmod 9 = (colT x i).d % 9 := by rw [← hc]; exact rem_of hz.d.1
      have f6 : (nth x.cols i).d.tdiv 16 = (colT x i).d / 16 := by rw [← hc]; exact quo_of hz.d.1
      have hzc := hz.c
      have hzd := hz.d
      unfold By at hzc hzd
      have bT : botT x i = (max 0 (lowT x i - (colT x i).c % 9), min 65 (lowT x i + (colT x i).c / 16)) := rfl
      have tT : tpT x i = (max 66 (topT x i - (colT x i).d % 9), topT x i + (colT x i).d / 16) := rfl
      have f7 : IntKind.i64.wrap ((colT x i).c / 16) = (colT x i).c / 16 := wrap_id (by omega) (by omega)
      have f8 : IntKind.i64.wrap ((colT x i).d / 16) = (colT x i).d / 16 := wrap_id (by omega) (by omega)
      have g1 : IntKind.i64.wrap (lowT x i - (colT x i).c % 9) = lowT x i - (colT x i).c % 9 := wrap_id (by omega) (by omega)
      have g2 : IntKind.i64.wrap (lowT x i + (colT x i).c / 16) = lowT x i + (colT x i).c / 16 := wrap_id (by omega) (by omega)
      have g3 : IntKind.i64.wrap (topT x i - (colT x i).d % 9) = topT x i - (colT x i).d % 9 := wrap_id (by omega) (by omega)
      have g4 : IntKind.i64.wrap (topT x i + (colT x i).d / 16) = topT x i + (colT x i).d / 16 := wrap_id (by omega) (by omega)
      have m1 : min (max 0 (lowT x i - (colT x i).c % 9)) (lowT x i) = max 0 (lowT x i - (colT x i).c % 9) := by omega
      have m2 : max (min 65 (lowT x i + (colT x i).c / 16)) (lowT x i) = min 65 (lowT x i + (colT x i).c / 16) := by omega
      have m3 : min (max 66 (topT x i - (colT x i).d % 9)) (topT x i) = max 66 (topT x i - (colT x i).d % 9) := by omega
      have m4 : max (topT x i + (colT x i).d / 16) (topT x i) = topT x i + (colT x i).d / 16 := by omega
      simp (maxSteps := 2000000) only [vcA, ↓vcP, ↓reduceIte, reduceCtorEq, Nat.reduceAdd, Nat.reduceMul, Nat.reduceSub, Nat.reduceLT, Nat.reduceLeDiff, Nat.reduceEqDiff, Nat.reduceBEq, Nat.reduceBNe, Nat.reduceGT, Nat.reduceDiv, Nat.reduceMod, Int.reduceAdd, Int.reduceSub, Int.reduceNeg, Int.reduceLT, Int.reduceLE, Int.reduceEq, Int.reduceToNat, fA, q1, q2, e4, e6, e7, ll, lt, iR, c4R, f1, f2, f3, f4, f5, f6, f7, f8, g1, g2, g3, g4]
      refine onF_data (span_spec (max 0 (lowT x i - (colT x i).c % 9)) (min 65 (lowT x i + (colT x i).c / 16))) ?_ ?_
      · simp (maxSteps := 2000000) only [okA, ↓okP, Nat.reduceAdd, Nat.reduceMul, Nat.reduceSub, Nat.reduceLT, Nat.reduceLeDiff, Nat.reduceEqDiff, Nat.reduceBEq, ↓reduceIte, reduceCtorEq]
      simp (maxSteps := 2000000) only [vcA, ↓vcP, ↓reduceIte, reduceCtorEq, Nat.reduceAdd, Nat.reduceMul, Nat.reduceSub, Nat.reduceLT, Nat.reduceLeDiff, Nat.reduceEqDiff, Nat.reduceBEq, Nat.reduceBNe, Nat.reduceGT, Nat.reduceDiv, Nat.reduceMod, Int.reduceAdd, Int.reduceSub, Int.reduceNeg, Int.reduceLT, Int.reduceLE, Int.reduceEq, Int.reduceToNat, fA, q1, q2, e4, e6, e7, ll, lt, iR, c4R, f1, f2, f3, f4, f5, f6, f7, f8, g1, g2, g3, g4]
      refine onF_data (span_spec (max 66 (topT x i - (colT x i).d % 9)) (topT x i + (colT x i).d / 16)) ?_ ?_
      · simp (maxSteps := 2000000) only [okA, ↓okP, Nat.reduceAdd, Nat.reduceMul, Nat.reduceSub, Nat.reduceLT, Nat.reduceLeDiff, Nat.reduceEqDiff, Nat.reduceBEq, ↓reduceIte, reduceCtorEq]
      simp (maxSteps := 2000000) only [vcA, ↓vcP, ↓reduceIte, reduceCtorEq, Nat.reduceAdd, Nat.reduceMul, Nat.reduceSub, Nat.reduceLT, Nat.reduceLeDiff, Nat.reduceEqDiff, Nat.reduceBEq, Nat.reduceBNe, Nat.reduceGT, Nat.reduceDiv, Nat.reduceMod, Int.reduceAdd, Int.reduceSub, Int.reduceNeg, Int.reduceLT, Int.reduceLE, Int.reduceEq, Int.reduceToNat, fA, q1, q2, e4, e6, e7, ll, lt, iR, c4R, f1, f2, f3, f4, f5, f6, f7, f8, g1, g2, g3, g4, m1, m2, m3, m4]
      repeat (first | refine ⟨by kernel_rfl, ?_⟩ | refine ⟨⟨by kernel_rfl, by kernel_rfl⟩, ?_⟩ | refine ⟨⟨by kernel_rfl, by kernel_rfl, by kernel_rfl⟩, ?_⟩ | refine ⟨⟨by kernel_rfl, by kernel_rfl, by kernel_rfl, by kernel_rfl⟩, ?_⟩ | refine ⟨⟨by kernel_rfl, by kernel_rfl, by kernel_rfl, by kernel_rfl, by kernel_rfl⟩, ?_⟩ | refine ⟨⟨by kernel_rfl, by kernel_rfl, by kernel_rfl, by kernel_rfl, by kernel_rfl, by kernel_rfl⟩, ?_⟩ | refine ⟨⟨by kernel_rfl, by kernel_rfl, by kernel_rfl, by kernel_rfl, by kernel_rfl, by kernel_rfl, by kernel_rfl⟩, ?_⟩ | refine ⟨⟨by kernel_rfl, by kernel_rfl, by kernel_rfl, by kernel_rfl, by kernel_rfl, by kernel_rfl, by kernel_rfl, by kernel_rfl⟩, ?_⟩ | refine ⟨⟨by kernel_rfl, by kernel_rfl, by kernel_rfl, by kernel_rfl, by kernel_rfl, by kernel_rfl, by kernel_rfl, by kernel_rfl, by kernel_rfl⟩, ?_⟩ | refine ⟨⟨by kernel_rfl, by kernel_rfl, by kernel_rfl, by kernel_rfl, by kernel_rfl, by kernel_rfl, by kernel_rfl, by kernel_rfl, by kernel_rfl, by kernel_rfl⟩, ?_⟩ | refine ⟨⟨by kernel_rfl, by kernel_rfl, by kernel_rfl, by kernel_rfl, by kernel_rfl, by kernel_rfl, by kernel_rfl, by kernel_rfl, by kernel_rfl, by kernel_rfl, by kernel_rfl⟩, ?_⟩ | refine ⟨⟨by kernel_rfl, by kernel_rfl, by kernel_rfl, by kernel_rfl, by kernel_rfl, by kernel_rfl, by kernel_rfl, by kernel_rfl, by kernel_rfl, by kernel_rfl, by kernel_rfl, by kernel_rfl⟩, ?_⟩ | refine ⟨⟨by kernel_rfl, by kernel_rfl, by kernel_rfl, by kernel_rfl, by kernel_rfl, by kernel_rfl, by kernel_rfl, by kernel_rfl, by kernel_rfl, by kernel_rfl, by kernel_rfl, by kernel_rfl, by kernel_rfl⟩, ?_⟩)
      refine onF_data (span_spec (max 0 (lowT x i - (colT x i).c % 9)) (min 65 (lowT x i + (colT x i).c / 16))) ?_ ?_
      · simp (maxSteps := 2000000) only [okA, ↓okP, Nat.reduceAdd, Nat.reduceMul, Nat.reduceSub, Nat.reduceLT, Nat.reduceLeDiff, Nat.reduceEqDiff, Nat.reduceBEq, ↓reduceIte, reduceCtorEq]
      simp (maxSteps := 2000000) only [vcA, ↓vcP, ↓reduceIte, reduceCtorEq, Nat.reduceAdd, Nat.reduceMul, Nat.reduceSub, Nat.reduceLT, Nat.reduceLeDiff, Nat.reduceEqDiff, Nat.reduceBEq, Nat.reduceBNe, Nat.reduceGT, Nat.reduceDiv, Nat.reduceMod, Int.reduceAdd, Int.reduceSub, Int.reduceNeg, Int.reduceLT, Int.reduceLE, Int.reduceEq, Int.reduceToNat, fA, q1, q2, e4, e6, e7, ll, lt, iR, m1, m2, m3, m4]
      refine ⟨⟨by omega, by simp only [maxLen]; omega⟩, fun _ => ?_⟩
      repeat (first | refine ⟨by kernel_rfl, ?_⟩ | refine ⟨⟨by kernel_rfl, by kernel_rfl⟩, ?_⟩ | refine ⟨⟨by kernel_rfl, by kernel_rfl, by kernel_rfl⟩, ?_⟩ | refine ⟨⟨by kernel_rfl, by kernel_rfl, by kernel_rfl, by kernel_rfl⟩, ?_⟩ | refine ⟨⟨by kernel_rfl, by kernel_rfl, by kernel_rfl, by kernel_rfl, by kernel_rfl⟩, ?_⟩ | refine ⟨⟨by kernel_rfl, by kernel_rfl, by kernel_rfl, by kernel_rfl, by kernel_rfl, by kernel_rfl⟩, ?_⟩ | refine ⟨⟨by kernel_rfl, by kernel_rfl, by kernel_rfl, by kernel_rfl, by kernel_rfl, by kernel_rfl, by kernel_rfl⟩, ?_⟩ | refine ⟨⟨by kernel_rfl, by kernel_rfl, by kernel_rfl, by kernel_rfl, by kernel_rfl, by kernel_rfl, by kernel_rfl, by kernel_rfl⟩, ?_⟩ | refine ⟨⟨by kernel_rfl, by kernel_rfl, by kernel_rfl, by kernel_rfl, by kernel_rfl, by kernel_rfl, by kernel_rfl, by kernel_rfl, by kernel_rfl⟩, ?_⟩ | refine ⟨⟨by kernel_rfl, by kernel_rfl, by kernel_rfl, by kernel_rfl, by kernel_rfl, by kernel_rfl, by kernel_rfl, by kernel_rfl, by kernel_rfl, by kernel_rfl⟩, ?_⟩ | refine ⟨⟨by kernel_rfl, by kernel_rfl, by kernel_rfl, by kernel_rfl, by kernel_rfl, by kernel_rfl, by kernel_rfl, by kernel_rfl, by kernel_rfl, by kernel_rfl, by kernel_rfl⟩, ?_⟩ | refine ⟨⟨by kernel_rfl, by kernel_rfl, by kernel_rfl, by kernel_rfl, by kernel_rfl, by kernel_rfl, by kernel_rfl, by kernel_rfl, by kernel_rfl, by kernel_rfl, by kernel_rfl, by kernel_rfl⟩, ?_⟩ | refine ⟨⟨by kernel_rfl, by kernel_rfl, by kernel_rfl, by kernel_rfl, by kernel_rfl, by kernel_rfl, by kernel_rfl, by kernel_rfl, by kernel_rfl, by kernel_rfl, by kernel_rfl, by kernel_rfl, by kernel_rfl⟩, ?_⟩)
      refine onF_data (span_spec (max 66 (topT x i - (colT x i).d % 9)) (topT x i + (colT x i).d / 16)) ?_ ?_
      · simp (maxSteps := 2000000) only [okA, ↓okP, Nat.reduceAdd, Nat.reduceMul, Nat.reduceSub, Nat.reduceLT, Nat.reduceLeDiff, Nat.reduceEqDiff, Nat.reduceBEq, ↓reduceIte, reduceCtorEq]
      simp (maxSteps := 2000000) only [vcA, ↓vcP, ↓reduceIte, reduceCtorEq, Nat.reduceAdd, Nat.reduceMul, Nat.reduceSub, Nat.reduceLT, Nat.reduceLeDiff, Nat.reduceEqDiff, Nat.reduceBEq, Nat.reduceBNe, Nat.reduceGT, Nat.reduceDiv, Nat.reduceMod, Int.reduceAdd, Int.reduceSub, Int.reduceNeg, Int.reduceLT, Int.reduceLE, Int.reduceEq, Int.reduceToNat, fA, q1, q2, e4, e6, e7, ll, lt, iR, m1, m2, m3, m4]
      refine ⟨⟨by omega, by simp only [maxLen]; omega⟩, fun _ => ?_⟩
      repeat (first | refine ⟨by kernel_rfl, ?_⟩ | refine ⟨⟨by kernel_rfl, by kernel_rfl⟩, ?_⟩ | refine ⟨⟨by kernel_rfl, by kernel_rfl, by kernel_rfl⟩, ?_⟩ | refine ⟨⟨by kernel_rfl, by kernel_rfl, by kernel_rfl, by kernel_rfl⟩, ?_⟩ | refine ⟨⟨by kernel_rfl, by kernel_rfl, by kernel_rfl, by kernel_rfl, by kernel_rfl⟩, ?_⟩ | refine ⟨⟨by kernel_rfl, by kernel_rfl, by kernel_rfl, by kernel_rfl, by kernel_rfl, by kernel_rfl⟩, ?_⟩ | refine ⟨⟨by kernel_rfl, by kernel_rfl, by kernel_rfl, by kernel_rfl, by kernel_rfl, by kernel_rfl, by kernel_rfl⟩, ?_⟩ | refine ⟨⟨by kernel_rfl, by kernel_rfl, by kernel_rfl, by kernel_rfl, by kernel_rfl, by kernel_rfl, by kernel_rfl, by kernel_rfl⟩, ?_⟩ | refine ⟨⟨by kernel_rfl, by kernel_rfl, by kernel_rfl, by kernel_rfl, by kernel_rfl, by kernel_rfl, by kernel_rfl, by kernel_rfl, by kernel_rfl⟩, ?_⟩ | refine ⟨⟨by kernel_rfl, by kernel_rfl, by kernel_rfl, by kernel_rfl, by kernel_rfl, by kernel_rfl, by kernel_rfl, by kernel_rfl, by kernel_rfl, by kernel_rfl⟩, ?_⟩ | refine ⟨⟨by kernel_rfl, by kernel_rfl, by kernel_rfl, by kernel_rfl, by kernel_rfl, by kernel_rfl, by kernel_rfl, by kernel_rfl, by kernel_rfl, by kernel_rfl, by kernel_rfl⟩, ?_⟩ | refine ⟨⟨by kernel_rfl, by kernel_rfl, by kernel_rfl, by kernel_rfl, by kernel_rfl, by kernel_rfl, by kernel_rfl, by kernel_rfl, by kernel_rfl, by kernel_rfl, by kernel_rfl, by kernel_rfl⟩, ?_⟩ | refine ⟨⟨by kernel_rfl, by kernel_rfl, by kernel_rfl, by kernel_rfl, by kernel_rfl, by kernel_rfl, by kernel_rfl, by kernel_rfl, by kernel_rfl, by kernel_rfl, by kernel_rfl, by kernel_rfl, by kernel_rfl⟩, ?_⟩)

      refine hB _ ⟨i + 1, by omega⟩ [some 936, some 1088] ?_ rfl ?_
      · simp only; omega
      · simp (maxSteps := 2000000) only [enA, ↓enP, Nat.reduceAdd, Nat.reduceMul, Nat.reduceSub, Nat.reduceLT, Nat.reduceLeDiff, Nat.reduceEqDiff, Nat.reduceBEq, ↓reduceIte, reduceCtorEq, fA]
        rw [bots_succ, tps_succ, bT, tT]
        simp [spR, l1, l2]
    · have hc : colT x i = ⟨7, 90, 3, 3⟩ := by unfold colT; rw [if_neg c2]
      have q2 : (i < x.cols.length) = False := eq_false c2
      have f1 : IntKind.i64.wrap 3 = 3 := by decide
      have f2 : (3 : Int).tmod 9 = 3 := by decide
      have f3 : (3 : Int).tdiv 16 = 0 := by decide
      have f4 : (3 : Int).tdiv 16 = 0 := by decide
      have f5 : (3 : Int).tdiv 16 = 0 := by decide
      have f6 : (3 : Int).tdiv 16 = 0 := by decide
      have bT : botT x i = (max 0 (lowT x i - 3), min 65 (lowT x i + 0)) := by unfold botT; rw [hc]; rfl
      have tT : tpT x i = (max 66 (topT x i - 3), topT x i + 0) := by unfold tpT; rw [hc]; rfl
      have f7 : IntKind.i64.wrap (0) = 0 := wrap_id (by omega) (by omega)
      have f8 : IntKind.i64.wrap (0) = 0 := wrap_id (by omega) (by omega)
      have g1 : IntKind.i64.wrap (lowT x i - 3) = lowT x i - 3 := wrap_id (by omega) (by omega)
      have g2 : IntKind.i64.wrap (lowT x i + 0) = lowT x i + 0 := wrap_id (by omega) (by omega)
      have g3 : IntKind.i64.wrap (topT x i - 3) = topT x i - 3 := wrap_id (by omega) (by omega)
      have g4 : IntKind.i64.wrap (topT x i + 0) = topT x i + 0 := wrap_id (by omega) (by omega)
      have m1 : min (max 0 (lowT x i - 3)) (lowT x i) = max 0 (lowT x i - 3) := by omega
      have m2 : max (min 65 (lowT x i + 0)) (lowT x i) = min 65 (lowT x i + 0) := by omega
      have m3 : min (max 66 (topT x i - 3)) (topT x i) = max 66 (topT x i - 3) := by omega
      have m4 : max (topT x i + 0) (topT x i) = topT x i + 0 := by omega
      simp (maxSteps := 2000000) only [vcA, ↓vcP, ↓reduceIte, reduceCtorEq, Nat.reduceAdd, Nat.reduceMul, Nat.reduceSub, Nat.reduceLT, Nat.reduceLeDiff, Nat.reduceEqDiff, Nat.reduceBEq, Nat.reduceBNe, Nat.reduceGT, Nat.reduceDiv, Nat.reduceMod, Int.reduceAdd, Int.reduceSub, Int.reduceNeg, Int.reduceLT, Int.reduceLE, Int.reduceEq, Int.reduceToNat, fA, q1, q2, e4, e6, e7, ll, lt, iR, c4R, f1, f2, f3, f4, f5, f6, f7, f8, g1, g2, g3, g4]
      refine onF_data (span_spec (max 0 (lowT x i - 3)) (min 65 (lowT x i + 0))) ?_ ?_
      · simp (maxSteps := 2000000) only [okA, ↓okP, Nat.reduceAdd, Nat.reduceMul, Nat.reduceSub, Nat.reduceLT, Nat.reduceLeDiff, Nat.reduceEqDiff, Nat.reduceBEq, ↓reduceIte, reduceCtorEq]
      simp (maxSteps := 2000000) only [vcA, ↓vcP, ↓reduceIte, reduceCtorEq, Nat.reduceAdd, Nat.reduceMul, Nat.reduceSub, Nat.reduceLT, Nat.reduceLeDiff, Nat.reduceEqDiff, Nat.reduceBEq, Nat.reduceBNe, Nat.reduceGT, Nat.reduceDiv, Nat.reduceMod, Int.reduceAdd, Int.reduceSub, Int.reduceNeg, Int.reduceLT, Int.reduceLE, Int.reduceEq, Int.reduceToNat, fA, q1, q2, e4, e6, e7, ll, lt, iR, c4R, f1, f2, f3, f4, f5, f6, f7, f8, g1, g2, g3, g4]
      refine onF_data (span_spec (max 66 (topT x i - 3)) (topT x i + 0)) ?_ ?_
      · simp (maxSteps := 2000000) only [okA, ↓okP, Nat.reduceAdd, Nat.reduceMul, Nat.reduceSub, Nat.reduceLT, Nat.reduceLeDiff, Nat.reduceEqDiff, Nat.reduceBEq, ↓reduceIte, reduceCtorEq]
      simp (maxSteps := 2000000) only [vcA, ↓vcP, ↓reduceIte, reduceCtorEq, Nat.reduceAdd, Nat.reduceMul, Nat.reduceSub, Nat.reduceLT, Nat.reduceLeDiff, Nat.reduceEqDiff, Nat.reduceBEq, Nat.reduceBNe, Nat.reduceGT, Nat.reduceDiv, Nat.reduceMod, Int.reduceAdd, Int.reduceSub, Int.reduceNeg, Int.reduceLT, Int.reduceLE, Int.reduceEq, Int.reduceToNat, fA, q1, q2, e4, e6, e7, ll, lt, iR, c4R, f1, f2, f3, f4, f5, f6, f7, f8, g1, g2, g3, g4, m1, m2, m3, m4]
      repeat (first | refine ⟨by kernel_rfl, ?_⟩ | refine ⟨⟨by kernel_rfl, by kernel_rfl⟩, ?_⟩ | refine ⟨⟨by kernel_rfl, by kernel_rfl, by kernel_rfl⟩, ?_⟩ | refine ⟨⟨by kernel_rfl, by kernel_rfl, by kernel_rfl, by kernel_rfl⟩, ?_⟩ | refine ⟨⟨by kernel_rfl, by kernel_rfl, by kernel_rfl, by kernel_rfl, by kernel_rfl⟩, ?_⟩ | refine ⟨⟨by kernel_rfl, by kernel_rfl, by kernel_rfl, by kernel_rfl, by kernel_rfl, by kernel_rfl⟩, ?_⟩ | refine ⟨⟨by kernel_rfl, by kernel_rfl, by kernel_rfl, by kernel_rfl, by kernel_rfl, by kernel_rfl, by kernel_rfl⟩, ?_⟩ | refine ⟨⟨by kernel_rfl, by kernel_rfl, by kernel_rfl, by kernel_rfl, by kernel_rfl, by kernel_rfl, by kernel_rfl, by kernel_rfl⟩, ?_⟩ | refine ⟨⟨by kernel_rfl, by kernel_rfl, by kernel_rfl, by kernel_rfl, by kernel_rfl, by kernel_rfl, by kernel_rfl, by kernel_rfl, by kernel_rfl⟩, ?_⟩ | refine ⟨⟨by kernel_rfl, by kernel_rfl, by kernel_rfl, by kernel_rfl, by kernel_rfl, by kernel_rfl, by kernel_rfl, by kernel_rfl, by kernel_rfl, by kernel_rfl⟩, ?_⟩ | refine ⟨⟨by kernel_rfl, by kernel_rfl, by kernel_rfl, by kernel_rfl, by kernel_rfl, by kernel_rfl, by kernel_rfl, by kernel_rfl, by kernel_rfl, by kernel_rfl, by kernel_rfl⟩, ?_⟩ | refine ⟨⟨by kernel_rfl, by kernel_rfl, by kernel_rfl, by kernel_rfl, by kernel_rfl, by kernel_rfl, by kernel_rfl, by kernel_rfl, by kernel_rfl, by kernel_rfl, by kernel_rfl, by kernel_rfl⟩, ?_⟩ | refine ⟨⟨by kernel_rfl, by kernel_rfl, by kernel_rfl, by kernel_rfl, by kernel_rfl, by kernel_rfl, by kernel_rfl, by kernel_rfl, by kernel_rfl, by kernel_rfl, by kernel_rfl, by kernel_rfl, by kernel_rfl⟩, ?_⟩)
      refine onF_data (span_spec (max 0 (lowT x i - 3)) (min 65 (lowT x i + 0))) ?_ ?_
      · simp (maxSteps := 2000000) only [okA, ↓okP, Nat.reduceAdd, Nat.reduceMul, Nat.reduceSub, Nat.reduceLT, Nat.reduceLeDiff, Nat.reduceEqDiff, Nat.reduceBEq, ↓reduceIte, reduceCtorEq]
      simp (maxSteps := 2000000) only [vcA, ↓vcP, ↓reduceIte, reduceCtorEq, Nat.reduceAdd, Nat.reduceMul, Nat.reduceSub, Nat.reduceLT, Nat.reduceLeDiff, Nat.reduceEqDiff, Nat.reduceBEq, Nat.reduceBNe, Nat.reduceGT, Nat.reduceDiv, Nat.reduceMod, Int.reduceAdd, Int.reduceSub, Int.reduceNeg, Int.reduceLT, Int.reduceLE, Int.reduceEq, Int.reduceToNat, fA, q1, q2, e4, e6, e7, ll, lt, iR, m1, m2, m3, m4]
      refine ⟨⟨by omega, by simp only [maxLen]; omega⟩, fun _ => ?_⟩
      repeat (first | refine ⟨by kernel_rfl, ?_⟩ | refine ⟨⟨by kernel_rfl, by kernel_rfl⟩, ?_⟩ | refine ⟨⟨by kernel_rfl, by kernel_rfl, by kernel_rfl⟩, ?_⟩ | refine ⟨⟨by kernel_rfl, by kernel_rfl, by kernel_rfl, by kernel_rfl⟩, ?_⟩ | refine ⟨⟨by kernel_rfl, by kernel_rfl, by kernel_rfl, by kernel_rfl, by kernel_rfl⟩, ?_⟩ | refine ⟨⟨by kernel_rfl, by kernel_rfl, by kernel_rfl, by kernel_rfl, by kernel_rfl, by kernel_rfl⟩, ?_⟩ | refine ⟨⟨by kernel_rfl, by kernel_rfl, by kernel_rfl, by kernel_rfl, by kernel_rfl, by kernel_rfl, by kernel_rfl⟩, ?_⟩ | refine ⟨⟨by kernel_rfl, by kernel_rfl, by kernel_rfl, by kernel_rfl, by kernel_rfl, by kernel_rfl, by kernel_rfl, by kernel_rfl⟩, ?_⟩ | refine ⟨⟨by kernel_rfl, by kernel_rfl, by kernel_rfl, by kernel_rfl, by kernel_rfl, by kernel_rfl, by kernel_rfl, by kernel_rfl, by kernel_rfl⟩, ?_⟩ | refine ⟨⟨by kernel_rfl, by kernel_rfl, by kernel_rfl, by kernel_rfl, by kernel_rfl, by kernel_rfl, by kernel_rfl, by kernel_rfl, by kernel_rfl, by kernel_rfl⟩, ?_⟩ | refine ⟨⟨by kernel_rfl, by kernel_rfl, by kernel_rfl, by kernel_rfl, by kernel_rfl, by kernel_rfl, by kernel_rfl, by kernel_rfl, by kernel_rfl, by kernel_rfl, by kernel_rfl⟩, ?_⟩ | refine ⟨⟨by kernel_rfl, by kernel_rfl, by kernel_rfl, by kernel_rfl, by kernel_rfl, by kernel_rfl, by kernel_rfl, by kernel_rfl, by kernel_rfl, by kernel_rfl, by kernel_rfl, by kernel_rfl⟩, ?_⟩ | refine ⟨⟨by kernel_rfl, by kernel_rfl, by kernel_rfl, by kernel_rfl, by kernel_rfl, by kernel_rfl, by kernel_rfl, by kernel_rfl, by kernel_rfl, by kernel_rfl, by kernel_rfl, by kernel_rfl, by kernel_rfl⟩, ?_⟩)
      refine onF_data (span_spec (max 66 (topT x i - 3)) (topT x i + 0)) ?_ ?_
      · simp (maxSteps := 2000000) only [okA, ↓okP, Nat.reduceAdd, Nat.reduceMul, Nat.reduceSub, Nat.reduceLT, Nat.reduceLeDiff, Nat.reduceEqDiff, Nat.reduceBEq, ↓reduceIte, reduceCtorEq]
      simp (maxSteps := 2000000) only [vcA, ↓vcP, ↓reduceIte, reduceCtorEq, Nat.reduceAdd, Nat.reduceMul, Nat.reduceSub, Nat.reduceLT, Nat.reduceLeDiff, Nat.reduceEqDiff, Nat.reduceBEq, Nat.reduceBNe, Nat.reduceGT, Nat.reduceDiv, Nat.reduceMod, Int.reduceAdd, Int.reduceSub, Int.reduceNeg, Int.reduceLT, Int.reduceLE, Int.reduceEq, Int.reduceToNat, fA, q1, q2, e4, e6, e7, ll, lt, iR, m1, m2, m3, m4]
      refine ⟨⟨by omega, by simp only [maxLen]; omega⟩, fun _ => ?_⟩
      repeat (first | refine ⟨by kernel_rfl, ?_⟩ | refine ⟨⟨by kernel_rfl, by kernel_rfl⟩, ?_⟩ | refine ⟨⟨by kernel_rfl, by kernel_rfl, by kernel_rfl⟩, ?_⟩ | refine ⟨⟨by kernel_rfl, by kernel_rfl, by kernel_rfl, by kernel_rfl⟩, ?_⟩ | refine ⟨⟨by kernel_rfl, by kernel_rfl, by kernel_rfl, by kernel_rfl, by kernel_rfl⟩, ?_⟩ | refine ⟨⟨by kernel_rfl, by kernel_rfl, by kernel_rfl, by kernel_rfl, by kernel_rfl, by kernel_rfl⟩, ?_⟩ | refine ⟨⟨by kernel_rfl, by kernel_rfl, by kernel_rfl, by kernel_rfl, by kernel_rfl, by kernel_rfl, by kernel_rfl⟩, ?_⟩ | refine ⟨⟨by kernel_rfl, by kernel_rfl, by kernel_rfl, by kernel_rfl, by kernel_rfl, by kernel_rfl, by kernel_rfl, by kernel_rfl⟩, ?_⟩ | refine ⟨⟨by kernel_rfl, by kernel_rfl, by kernel_rfl, by kernel_rfl, by kernel_rfl, by kernel_rfl, by kernel_rfl, by kernel_rfl, by kernel_rfl⟩, ?_⟩ | refine ⟨⟨by kernel_rfl, by kernel_rfl, by kernel_rfl, by kernel_rfl, by kernel_rfl, by kernel_rfl, by kernel_rfl, by kernel_rfl, by kernel_rfl, by kernel_rfl⟩, ?_⟩ | refine ⟨⟨by kernel_rfl, by kernel_rfl, by kernel_rfl, by kernel_rfl, by kernel_rfl, by kernel_rfl, by kernel_rfl, by kernel_rfl, by kernel_rfl, by kernel_rfl, by kernel_rfl⟩, ?_⟩ | refine ⟨⟨by kernel_rfl, by kernel_rfl, by kernel_rfl, by kernel_rfl, by kernel_rfl, by kernel_rfl, by kernel_rfl, by kernel_rfl, by kernel_rfl, by kernel_rfl, by kernel_rfl, by kernel_rfl⟩, ?_⟩ | refine ⟨⟨by kernel_rfl, by kernel_rfl, by kernel_rfl, by kernel_rfl, by kernel_rfl, by kernel_rfl, by kernel_rfl, by kernel_rfl, by kernel_rfl, by kernel_rfl, by kernel_rfl, by kernel_rfl, by kernel_rfl⟩, ?_⟩)

      refine hB _ ⟨i + 1, by omega⟩ [some 824, some 976] ?_ rfl ?_
      · simp only; omega
      · simp (maxSteps := 2000000) only [enA, ↓enP, Nat.reduceAdd, Nat.reduceMul, Nat.reduceSub, Nat.reduceLT, Nat.reduceLeDiff, Nat.reduceEqDiff, Nat.reduceBEq, ↓reduceIte, reduceCtorEq, fA]
        rw [bots_succ, tps_succ, bT, tT]
        simp [spR, l1, l2]
  have hn : i = numT x := by omega
  subst hn
  have q1 : (numT x < numT x) = False := eq_false (by omega)
  simp (maxSteps := 2000000) only [vcA, ↓vcP, ↓reduceIte, reduceCtorEq, Nat.reduceAdd, Nat.reduceMul, Nat.reduceSub, Nat.reduceLT, Nat.reduceLeDiff, Nat.reduceEqDiff, Nat.reduceBEq, Nat.reduceBNe, Nat.reduceGT, Nat.reduceDiv, Nat.reduceMod, Int.reduceAdd, Int.reduceSub, Int.reduceNeg, Int.reduceLT, Int.reduceLE, Int.reduceEq, Int.reduceToNat, fA, q1, ll, lt]
  refine goC_loop (α := {j : Nat // j ≤ numC x}) (fun y => ⟨[(1, .ptr 8 0), (2, .ptr 16 0), (3, .ptr 24 0), (4, .ptr 32 0), (5, .sl 1 ((lowsT x (numT x)).map iR)), (8, .ptr 152 0), (9, .ptr 160 0), (14, .v (.int .i64 y.1))], [(8, .box 55 [.sl 4 (x.cols.map c4R), .v (.int .u8 x.bend), .sl 6 (x.cracks.map c6R), .v (.int .u8 x.saw.a), .v (.int .u8 x.saw.b), .v (.int .u8 x.saw.c), .v (.int .u8 x.saw.d)]), (16, .box 25 [.v (.slice none 0 0), .v (.slice none 0 0), .v (.int .i64 0), .v (.slice none 0 0)]), (24, .box 27 [.v (.int .i64 0), .v (.int .i64 0), .v (.int .i64 0), .v (.int .i64 0)]), (32, .box 59 [.v (.slice none 0 0), .v (.slice none 0 0), .v (.slice none 0 0)]), (152, .box 25 [.ob 192 (numT x), .ob 193 (numT x), .v (.int .i64 (bendT x)), .ob 264 y.1]), (160, .box 59 [.sl 1 ((lowsT x (numT x)).map iR), .sl 1 ((topsT x (numT x)).map iR), .ob 265 y.1]), (192, .row 85 2 ((botsT x (numT x)).map spR) false), (193, .row 85 2 ((tpsT x (numT x)).map spR) false), (264, .row 100 6 ((crksT x y.1).map crR) false), (265, .row 113 3 ((pksT x y.1).map pk3) false)]⟩) (fun y => numC x - y.1) ⟨0, by omega⟩ [none, none] ?_ ?_
  · simp (maxSteps := 2000000) only [enA, ↓enP, Nat.reduceAdd, Nat.reduceMul, Nat.reduceSub, Nat.reduceLT, Nat.reduceLeDiff, Nat.reduceEqDiff, Nat.reduceBEq, ↓reduceIte, reduceCtorEq, fA]
    exact ⟨rfl, rfl, rfl⟩
  intro y B2 hB2
  obtain ⟨j, hj⟩ := y
  have hC : numC x = min x.cracks.length 3 := rfl
  have e9 : IntKind.i64.wrap ((j : Int) + 1) = ((j + 1 : Nat) : Int) := wrap_id (by omega) (by omega)
  have l3 : (crksT x j).length = j := by simp [crksT]
  have l4 : (pksT x j).length = j := by simp [pksT]
  by_cases c4 : j < numC x
  · have q4 : (j < x.cracks.length) = True := eq_true (by omega)
    have q5 : ((j : Int) < 3) = True := eq_true (by omega)
    simp (maxSteps := 2000000) only [vcA, ↓vcP, ↓reduceIte, reduceCtorEq, Nat.reduceAdd, Nat.reduceMul, Nat.reduceSub, Nat.reduceLT, Nat.reduceLeDiff, Nat.reduceEqDiff, Nat.reduceBEq, Nat.reduceBNe, Nat.reduceGT, Nat.reduceDiv, Nat.reduceMod, Int.reduceAdd, Int.reduceSub, Int.reduceNeg, Int.reduceLT, Int.reduceLE, Int.reduceEq, Int.reduceToNat, fA, q4, q5, ll, lt]
    refine onF_data (crack_spec x hx j (by omega) (numT x) (by omega)) ?_ ?_
    · simp (maxSteps := 2000000) only [okA, ↓okP, Nat.reduceAdd, Nat.reduceMul, Nat.reduceSub, Nat.reduceLT, Nat.reduceLeDiff, Nat.reduceEqDiff, Nat.reduceBEq, ↓reduceIte, reduceCtorEq]
    simp (maxSteps := 2000000) only [vcA, ↓vcP, ↓reduceIte, reduceCtorEq, Nat.reduceAdd, Nat.reduceMul, Nat.reduceSub, Nat.reduceLT, Nat.reduceLeDiff, Nat.reduceEqDiff, Nat.reduceBEq, Nat.reduceBNe, Nat.reduceGT, Nat.reduceDiv, Nat.reduceMod, Int.reduceAdd, Int.reduceSub, Int.reduceNeg, Int.reduceLT, Int.reduceLE, Int.reduceEq, Int.reduceToNat, fA, q4, q5, ll, lt, e9]
    repeat (first | refine ⟨by kernel_rfl, ?_⟩ | refine ⟨⟨by kernel_rfl, by kernel_rfl⟩, ?_⟩ | refine ⟨⟨by kernel_rfl, by kernel_rfl, by kernel_rfl⟩, ?_⟩ | refine ⟨⟨by kernel_rfl, by kernel_rfl, by kernel_rfl, by kernel_rfl⟩, ?_⟩ | refine ⟨⟨by kernel_rfl, by kernel_rfl, by kernel_rfl, by kernel_rfl, by kernel_rfl⟩, ?_⟩ | refine ⟨⟨by kernel_rfl, by kernel_rfl, by kernel_rfl, by kernel_rfl, by kernel_rfl, by kernel_rfl⟩, ?_⟩ | refine ⟨⟨by kernel_rfl, by kernel_rfl, by kernel_rfl, by kernel_rfl, by kernel_rfl, by kernel_rfl, by kernel_rfl⟩, ?_⟩ | refine ⟨⟨by kernel_rfl, by kernel_rfl, by kernel_rfl, by kernel_rfl, by kernel_rfl, by kernel_rfl, by kernel_rfl, by kernel_rfl⟩, ?_⟩ | refine ⟨⟨by kernel_rfl, by kernel_rfl, by kernel_rfl, by kernel_rfl, by kernel_rfl, by kernel_rfl, by kernel_rfl, by kernel_rfl, by kernel_rfl⟩, ?_⟩ | refine ⟨⟨by kernel_rfl, by kernel_rfl, by kernel_rfl, by kernel_rfl, by kernel_rfl, by kernel_rfl, by kernel_rfl, by kernel_rfl, by kernel_rfl, by kernel_rfl⟩, ?_⟩ | refine ⟨⟨by kernel_rfl, by kernel_rfl, by kernel_rfl, by kernel_rfl, by kernel_rfl, by kernel_rfl, by kernel_rfl, by kernel_rfl, by kernel_rfl, by kernel_rfl, by kernel_rfl⟩, ?_⟩ | refine ⟨⟨by kernel_rfl, by kernel_rfl, by kernel_rfl, by kernel_rfl, by kernel_rfl, by kernel_rfl, by kernel_rfl, by kernel_rfl, by kernel_rfl, by kernel_rfl, by kernel_rfl, by kernel_rfl⟩, ?_⟩ | refine ⟨⟨by kernel_rfl, by kernel_rfl, by kernel_rfl, by kernel_rfl, by kernel_rfl, by kernel_rfl, by kernel_rfl, by kernel_rfl, by kernel_rfl, by kernel_rfl, by kernel_rfl, by kernel_rfl, by kernel_rfl⟩, ?_⟩)
    refine ⟨⟨by omega, by simp only [maxLen]; omega⟩, fun _ => ?_⟩
    repeat (first | refine ⟨by kernel_rfl, ?_⟩ | refine ⟨⟨by kernel_rfl, by kernel_rfl⟩, ?_⟩ | refine ⟨⟨by kernel_rfl, by kernel_rfl, by kernel_rfl⟩, ?_⟩ | refine ⟨⟨by kernel_rfl, by kernel_rfl, by kernel_rfl, by kernel_rfl⟩, ?_⟩ | refine ⟨⟨by kernel_rfl, by kernel_rfl, by kernel_rfl, by kernel_rfl, by kernel_rfl⟩, ?_⟩ | refine ⟨⟨by kernel_rfl, by kernel_rfl, by kernel_rfl, by kernel_rfl, by kernel_rfl, by kernel_rfl⟩, ?_⟩ | refine ⟨⟨by kernel_rfl, by kernel_rfl, by kernel_rfl, by kernel_rfl, by kernel_rfl, by kernel_rfl, by kernel_rfl⟩, ?_⟩ | refine ⟨⟨by kernel_rfl, by kernel_rfl, by kernel_rfl, by kernel_rfl, by kernel_rfl, by kernel_rfl, by kernel_rfl, by kernel_rfl⟩, ?_⟩ | refine ⟨⟨by kernel_rfl, by kernel_rfl, by kernel_rfl, by kernel_rfl, by kernel_rfl, by kernel_rfl, by kernel_rfl, by kernel_rfl, by kernel_rfl⟩, ?_⟩ | refine ⟨⟨by kernel_rfl, by kernel_rfl, by kernel_rfl, by kernel_rfl, by kernel_rfl, by kernel_rfl, by kernel_rfl, by kernel_rfl, by kernel_rfl, by kernel_rfl⟩, ?_⟩ | refine ⟨⟨by kernel_rfl, by kernel_rfl, by kernel_rfl, by kernel_rfl, by kernel_rfl, by kernel_rfl, by kernel_rfl, by kernel_rfl, by kernel_rfl, by kernel_rfl, by kernel_rfl⟩, ?_⟩ | refine ⟨⟨by kernel_rfl, by kernel_rfl, by kernel_rfl, by kernel_rfl, by kernel_rfl, by kernel_rfl, by kernel_rfl, by kernel_rfl, by kernel_rfl, by kernel_rfl, by kernel_rfl, by kernel_rfl⟩, ?_⟩ | refine ⟨⟨by kernel_rfl, by kernel_rfl, by kernel_rfl, by kernel_rfl, by kernel_rfl, by kernel_rfl, by kernel_rfl, by kernel_rfl, by kernel_rfl, by kernel_rfl, by kernel_rfl, by kernel_rfl, by kernel_rfl⟩, ?_⟩)
    refine ⟨⟨by omega, by simp only [maxLen]; omega⟩, fun _ => ?_⟩
    repeat (first | refine ⟨by kernel_rfl, ?_⟩ | refine ⟨⟨by kernel_rfl, by kernel_rfl⟩, ?_⟩ | refine ⟨⟨by kernel_rfl, by kernel_rfl, by kernel_rfl⟩, ?_⟩ | refine ⟨⟨by kernel_rfl, by kernel_rfl, by kernel_rfl, by kernel_rfl⟩, ?_⟩ | refine ⟨⟨by kernel_rfl, by kernel_rfl, by kernel_rfl, by kernel_rfl, by kernel_rfl⟩, ?_⟩ | refine ⟨⟨by kernel_rfl, by kernel_rfl, by kernel_rfl, by kernel_rfl, by kernel_rfl, by kernel_rfl⟩, ?_⟩ | refine ⟨⟨by kernel_rfl, by kernel_rfl, by kernel_rfl, by kernel_rfl, by kernel_rfl, by kernel_rfl, by kernel_rfl⟩, ?_⟩ | refine ⟨⟨by kernel_rfl, by kernel_rfl, by kernel_rfl, by kernel_rfl, by kernel_rfl, by kernel_rfl, by kernel_rfl, by kernel_rfl⟩, ?_⟩ | refine ⟨⟨by kernel_rfl, by kernel_rfl, by kernel_rfl, by kernel_rfl, by kernel_rfl, by kernel_rfl, by kernel_rfl, by kernel_rfl, by kernel_rfl⟩, ?_⟩ | refine ⟨⟨by kernel_rfl, by kernel_rfl, by kernel_rfl, by kernel_rfl, by kernel_rfl, by kernel_rfl, by kernel_rfl, by kernel_rfl, by kernel_rfl, by kernel_rfl⟩, ?_⟩ | refine ⟨⟨by kernel_rfl, by kernel_rfl, by kernel_rfl, by kernel_rfl, by kernel_rfl, by kernel_rfl, by kernel_rfl, by kernel_rfl, by kernel_rfl, by kernel_rfl, by kernel_rfl⟩, ?_⟩ | refine ⟨⟨by kernel_rfl, by kernel_rfl, by kernel_rfl, by kernel_rfl, by kernel_rfl, by kernel_rfl, by kernel_rfl, by kernel_rfl, by kernel_rfl, by kernel_rfl, by kernel_rfl, by kernel_rfl⟩, ?_⟩ | refine ⟨⟨by kernel_rfl, by kernel_rfl, by kernel_rfl, by kernel_rfl, by kernel_rfl, by kernel_rfl, by kernel_rfl, by kernel_rfl, by kernel_rfl, by kernel_rfl, by kernel_rfl, by kernel_rfl, by kernel_rfl⟩, ?_⟩)
    refine hB2 _ ⟨j + 1, by omega⟩ [some 496, some 536] ?_ rfl ?_
    · simp only; omega
    · simp (maxSteps := 2000000) only [enA, ↓enP, Nat.reduceAdd, Nat.reduceMul, Nat.reduceSub, Nat.reduceLT, Nat.reduceLeDiff, Nat.reduceEqDiff, Nat.reduceBEq, ↓reduceIte, reduceCtorEq, fA]
      rw [crks_succ, pks_succ]
      simp [crR, pk3, l3, l4]
  have hs := hx.saw
  have h1 := hs.a
  have h2 := hs.b
  have h3 := hs.c
  have h4 := hs.d
  unfold By at h1 h2 h3 h4
  have a1 : IntKind.i64.wrap x.saw.a = x.saw.a := wrap_id (by omega) (by omega)
  have a2 : IntKind.i64.wrap x.saw.b = x.saw.b := wrap_id (by omega) (by omega)
  have a3 : IntKind.i64.wrap x.saw.c = x.saw.c := wrap_id (by omega) (by omega)
  have a4 : IntKind.i64.wrap x.saw.d = x.saw.d := wrap_id (by omega) (by omega)
  have b1 : x.saw.a.tmod 4 = x.saw.a % 4 := rem_of (by omega)
  have b2 : x.saw.b.tmod 40 = x.saw.b % 40 := rem_of (by omega)
  have b3 : x.saw.c.tmod 6 = x.saw.c % 6 := rem_of (by omega)
  have b4 : x.saw.d.tmod 3 = x.saw.d % 3 := rem_of (by omega)
  have d1 : IntKind.i64.wrap (1 + x.saw.a % 4) = 1 + x.saw.a % 4 := wrap_id (by omega) (by omega)
  have d2 : IntKind.i64.wrap (8 + x.saw.b % 40) = 8 + x.saw.b % 40 := wrap_id (by omega) (by omega)
  have hjn : j = numC x := by omega
  subst hjn
  by_cases c6 : numC x < x.cracks.length
  · have q4 : (numC x < x.cracks.length) = True := eq_true c6
    have q5 : ((numC x : Int) < 3) = False := eq_false (by omega)
    simp (maxSteps := 2000000) only [vcA, ↓vcP, ↓reduceIte, reduceCtorEq, Nat.reduceAdd, Nat.reduceMul, Nat.reduceSub, Nat.reduceLT, Nat.reduceLeDiff, Nat.reduceEqDiff, Nat.reduceBEq, Nat.reduceBNe, Nat.reduceGT, Nat.reduceDiv, Nat.reduceMod, Int.reduceAdd, Int.reduceSub, Int.reduceNeg, Int.reduceLT, Int.reduceLE, Int.reduceEq, Int.reduceToNat, fA, q4, q5, ll, lt, a1, a2, a3, a4, b1, b2, b3, b4, d1, d2]
    refine hR _ (fin_of1 [some 192, some 193, some 264, some 265] ?_)
    simp (maxSteps := 2000000) only [enA, ↓enP, Nat.reduceAdd, Nat.reduceMul, Nat.reduceSub, Nat.reduceLT, Nat.reduceLeDiff, Nat.reduceEqDiff, Nat.reduceBEq, ↓reduceIte, reduceCtorEq, fA]
    exact ⟨⟨rfl, rfl, rfl, rfl⟩, rfl, rfl, rfl⟩
  · have q4 : (numC x < x.cracks.length) = False := eq_false c6
    simp (maxSteps := 2000000) only [vcA, ↓vcP, ↓reduceIte, reduceCtorEq, Nat.reduceAdd, Nat.reduceMul, Nat.reduceSub, Nat.reduceLT, Nat.reduceLeDiff, Nat.reduceEqDiff, Nat.reduceBEq, Nat.reduceBNe, Nat.reduceGT, Nat.reduceDiv, Nat.reduceMod, Int.reduceAdd, Int.reduceSub, Int.reduceNeg, Int.reduceLT, Int.reduceLE, Int.reduceEq, Int.reduceToNat, fA, q4, ll, lt, a1, a2, a3, a4, b1, b2, b3, b4, d1, d2]
    refine hR _ (fin_of1 [some 192, some 193, some 264, some 265] ?_)
    simp (maxSteps := 2000000) only [enA, ↓enP, Nat.reduceAdd, Nat.reduceMul, Nat.reduceSub, Nat.reduceLT, Nat.reduceLeDiff, Nat.reduceEqDiff, Nat.reduceBEq, ↓reduceIte, reduceCtorEq, fA]
    exact ⟨⟨rfl, rfl, rfl, rfl⟩, rfl, rfl, rfl⟩
end Go.Proofs.Ytafpicjnccffgaa.Ab.T01
