/- The fewest numbers of a bill that must be wrong: the walk. (Printed by gegen.py.) -/
import Derived.Test.YtpnmbpbcgifkeaaZGC
namespace Go.Proofs.Ytpnmbpbcgifkeaa.Ab.T12
open Go Go.RowKit
set_option linter.unusedVariables false
set_option linter.unusedSimpArgs false
set_option maxRecDepth 100000
def bestA : List (Int × Int) → AV
  | [] => .v (.slice none 0 0)
  | m :: l => .ob 320 (m :: l).length
def bestO : List (Int × Int) → List (Nat × Obj)
  | [] => []
  | m :: l => [(320, .row 71 2 ((m :: l).map mkR) false)]
theorem lessB_zero {b : Bl} {k : Nat} (h : k < 2 ^ (b.lines.length * 3 + 1)) (hz : popc k = 0) : lessB b k = b := by
  have hb : ∀ j, j < b.lines.length * 3 + 1 → k.testBit j = false := fun j hj => by
    rw [popc_count _ k h] at hz
    cases ht : k.testBit j with
    | false => rfl
    | true =>
      have : j ∈ (List.range (b.lines.length * 3 + 1)).filter fun j => k.testBit j := List.mem_filter.2 ⟨List.mem_range.2 hj, ht⟩
      rw [List.length_eq_zero_iff.1 hz] at this
      simp at this
  have key : ∀ i, i ≤ b.lines.length * 3 + 1 → rubT b k i = b := fun i => by
    induction i with
    | zero => intro _; rfl
    | succ i ih => intro hi; unfold rubT; rw [if_neg (by rw [hb i (by omega)]; simp)]; exact ih (by omega)
  exact key _ (Nat.le_refl _)
noncomputable def chgErr (b : Bl) : Int := if readErr b ≠ 0 then readErr b else if faultL b = [] then 6 else 0
noncomputable def chgR (b : Bl) : List (Int × Int) := if chgErr b = 0 then chgT b (wrongN b b.lines.length) (2 ^ (b.lines.length * 3 + 1)) else []
set_option maxHeartbeats 8000000 in
theorem change0_spec (b : Bl) (hl : b.lines.length < 1000000) : SpecF Try.prog 22 [.agg [.sl 3 (b.lines.map lnR), .v (.int .i64 b.total)]] (.tup [.ob 0 (chgR b).length, .v (.int .i64 (chgErr b))]) [.row 71 2 ((chgR b).map mkR) false] := by
  refine spec_go (N := 118) (rs := [.tmp 2, .tmp 3]) (eq := eqs) rfl rfl fun_22 rfl (by kernel_rfl) (by kernel_rfl) (by simp) (by simp) (by simp) (by simp) fun R hR => ?_
  simp (maxSteps := 2000000) only [vcA, ↓vcP, ↓reduceIte, reduceCtorEq, Nat.reduceAdd, Nat.reduceMul, Nat.reduceSub, Nat.reduceLT, Nat.reduceLeDiff, Nat.reduceEqDiff, Nat.reduceBEq, Nat.reduceBNe, Nat.reduceGT, Nat.reduceDiv, Nat.reduceMod, Int.reduceAdd, Int.reduceSub, Int.reduceNeg, Int.reduceLT, Int.reduceLE, Int.reduceEq, Int.reduceToNat, fA]
  refine onF_call (openRead_spec b hl) [] [] [] ?_ ?_
  · simp (maxSteps := 2000000) only [okA, ↓okP, Nat.reduceAdd, Nat.reduceMul, Nat.reduceSub, Nat.reduceLT, Nat.reduceLeDiff, Nat.reduceEqDiff, Nat.reduceBEq, ↓reduceIte, reduceCtorEq]
  by_cases h0 : readErr b ≠ 0
  · have e1 : chgErr b = readErr b := if_pos h0
    have e2 : chgR b = [] := by unfold chgR; rw [if_neg (by rw [e1]; exact h0)]
    have p0 : (readErr b != 0) = true := by simpa using h0
    simp (maxSteps := 2000000) only [vcA, ↓vcP, ↓reduceIte, reduceCtorEq, Nat.reduceAdd, Nat.reduceMul, Nat.reduceSub, Nat.reduceLT, Nat.reduceLeDiff, Nat.reduceEqDiff, Nat.reduceBEq, Nat.reduceBNe, Nat.reduceGT, Nat.reduceDiv, Nat.reduceMod, Int.reduceAdd, Int.reduceSub, Int.reduceNeg, Int.reduceLT, Int.reduceLE, Int.reduceEq, Int.reduceToNat, fA, p0]
    refine hR _ (fin_of1 [none] ?_)
    simp (maxSteps := 2000000) only [enA, ↓enP, Nat.reduceAdd, Nat.reduceMul, Nat.reduceSub, Nat.reduceLT, Nat.reduceLeDiff, Nat.reduceEqDiff, Nat.reduceBEq, ↓reduceIte, reduceCtorEq, fA, e1, e2]
  have h0 : readErr b = 0 := by simpa using h0
  obtain ⟨hok, hnb⟩ := readErr_ok h0
  have hb : b.Sm := hok.sm
  have hlen := hb.len
  have q0 : ((0 : Int) != 0) = false := rfl
  rw [h0]
  simp (maxSteps := 2000000) only [vcA, ↓vcP, ↓reduceIte, reduceCtorEq, Nat.reduceAdd, Nat.reduceMul, Nat.reduceSub, Nat.reduceLT, Nat.reduceLeDiff, Nat.reduceEqDiff, Nat.reduceBEq, Nat.reduceBNe, Nat.reduceGT, Nat.reduceDiv, Nat.reduceMod, Int.reduceAdd, Int.reduceSub, Int.reduceNeg, Int.reduceLT, Int.reduceLE, Int.reduceEq, Int.reduceToNat, fA, q0]
  refine onF_call (faults_spec b hb) [] [] [40, 41] ?_ ?_
  · simp (maxSteps := 2000000) only [okA, ↓okP, Nat.reduceAdd, Nat.reduceMul, Nat.reduceSub, Nat.reduceLT, Nat.reduceLeDiff, Nat.reduceEqDiff, Nat.reduceBEq, ↓reduceIte, reduceCtorEq]
  by_cases h1 : faultL b = []
  · have e1 : chgErr b = 6 := by unfold chgErr; rw [if_neg (by rw [h0]; simp), if_pos h1]
    have e2 : chgR b = [] := by unfold chgR; rw [if_neg (by rw [e1]; decide)]
    have p0 : ((((faultL b).length : Nat) : Int) == 0) = true := by rw [h1]; rfl
    simp (maxSteps := 2000000) only [vcA, ↓vcP, ↓reduceIte, reduceCtorEq, Nat.reduceAdd, Nat.reduceMul, Nat.reduceSub, Nat.reduceLT, Nat.reduceLeDiff, Nat.reduceEqDiff, Nat.reduceBEq, Nat.reduceBNe, Nat.reduceGT, Nat.reduceDiv, Nat.reduceMod, Int.reduceAdd, Int.reduceSub, Int.reduceNeg, Int.reduceLT, Int.reduceLE, Int.reduceEq, Int.reduceToNat, fA, p0]
    refine hR _ (fin_of1 [none] ?_)
    simp (maxSteps := 2000000) only [enA, ↓enP, Nat.reduceAdd, Nat.reduceMul, Nat.reduceSub, Nat.reduceLT, Nat.reduceLeDiff, Nat.reduceEqDiff, Nat.reduceBEq, ↓reduceIte, reduceCtorEq, fA, e1, e2]
  have p0 : ((((faultL b).length : Nat) : Int) == 0) = false := by
    have := List.length_pos_iff.2 h1
    rw [beq_eq_false_iff_ne]
    omega
  have hnp : isPos b = false := by
    cases h : isPos b with
    | false => rfl
    | true => exact absurd (pos_read hnb (isPos_iff.1 h)) h1
  have e1 : chgErr b = 0 := by unfold chgErr; rw [if_neg (by rw [h0]; simp), if_neg h1]
  have e2 : chgR b = chgT b (wrongN b b.lines.length) (2 ^ (b.lines.length * 3 + 1)) := by unfold chgR; rw [if_pos e1]
  simp (maxSteps := 2000000) only [vcA, ↓vcP, ↓reduceIte, reduceCtorEq, Nat.reduceAdd, Nat.reduceMul, Nat.reduceSub, Nat.reduceLT, Nat.reduceLeDiff, Nat.reduceEqDiff, Nat.reduceBEq, Nat.reduceBNe, Nat.reduceGT, Nat.reduceDiv, Nat.reduceMod, Int.reduceAdd, Int.reduceSub, Int.reduceNeg, Int.reduceLT, Int.reduceLE, Int.reduceEq, Int.reduceToNat, fA, p0]
  -- the lines that are wrong
  refine goC_loop (α := {i : Nat // i ≤ b.lines.length}) (fun y => ⟨[(4, .ptr 40 0), (3, .v (.int .i64 0)), (2, .v (.slice none 0 0)), (5, .v (.int .i64 (wrongN b y.1))), (29, .ob 41 b.lines.length), (30, .v (.int .i64 b.lines.length)), (31, .v (.int .i64 y.1))], [(40, .box 114 [.ob 41 b.lines.length, .v (.int .i64 b.total)]), (41, .row 87 3 (b.lines.map lnR) false)]⟩) (fun y => b.lines.length - y.1) ⟨0, by omega⟩ [] ?_ ?_
  · simp (maxSteps := 2000000) only [enA, ↓enP, Nat.reduceAdd, Nat.reduceMul, Nat.reduceSub, Nat.reduceLT, Nat.reduceLeDiff, Nat.reduceEqDiff, Nat.reduceBEq, ↓reduceIte, reduceCtorEq, fA]
    exact ⟨rfl, rfl⟩
  intro y B hB
  obtain ⟨i, hi⟩ := y
  simp only at hB ⊢
  have wl := wrongN_le b i
  by_cases ci : i < b.lines.length
  · have p1 : (i < b.lines.length) = True := eq_true ci
    have ei : IntKind.i64.wrap ((i : Int) + 1) = ((i + 1 : Nat) : Int) := wrap_id (by omega) (by omega)
    obtain ⟨k1, k2, k3⟩ := hb.ln _ (nth_mem ci)
    have hm := mul_bd k1 k2
    have em : IntKind.i64.wrap ((nth b.lines i).many * (nth b.lines i).each) = (nth b.lines i).many * (nth b.lines i).each := wrap_id (by omega) (by omega)
    have ew : IntKind.i64.wrap ((wrongN b i : Int) + 1) = ((wrongN b i + 1 : Nat) : Int) := wrap_id (by omega) (by omega)
    cases hw : wrongL (nth b.lines i) with
    | true =>
      have hw' : ((nth b.lines i).many * (nth b.lines i).each != (nth b.lines i).amount) = true := hw
      have hs : wrongN b (i + 1) = wrongN b i + 1 := by rw [wrongN_succ, hw]; rfl
      simp (maxSteps := 2000000) only [vcA, ↓vcP, ↓reduceIte, reduceCtorEq, Nat.reduceAdd, Nat.reduceMul, Nat.reduceSub, Nat.reduceLT, Nat.reduceLeDiff, Nat.reduceEqDiff, Nat.reduceBEq, Nat.reduceBNe, Nat.reduceGT, Nat.reduceDiv, Nat.reduceMod, Int.reduceAdd, Int.reduceSub, Int.reduceNeg, Int.reduceLT, Int.reduceLE, Int.reduceEq, Int.reduceToNat, fA, p1, lnR, em, hw']
      repeat (first | refine ⟨by kernel_rfl, ?_⟩ | refine ⟨⟨by kernel_rfl, by kernel_rfl⟩, ?_⟩ | refine ⟨⟨by kernel_rfl, by kernel_rfl, by kernel_rfl⟩, ?_⟩ | refine ⟨⟨by kernel_rfl, by kernel_rfl, by kernel_rfl, by kernel_rfl⟩, ?_⟩ | refine ⟨⟨by kernel_rfl, by kernel_rfl, by kernel_rfl, by kernel_rfl, by kernel_rfl⟩, ?_⟩ | refine ⟨⟨by kernel_rfl, by kernel_rfl, by kernel_rfl, by kernel_rfl, by kernel_rfl, by kernel_rfl⟩, ?_⟩ | refine ⟨⟨by kernel_rfl, by kernel_rfl, by kernel_rfl, by kernel_rfl, by kernel_rfl, by kernel_rfl, by kernel_rfl⟩, ?_⟩ | refine ⟨⟨by kernel_rfl, by kernel_rfl, by kernel_rfl, by kernel_rfl, by kernel_rfl, by kernel_rfl, by kernel_rfl, by kernel_rfl⟩, ?_⟩ | refine ⟨⟨by kernel_rfl, by kernel_rfl, by kernel_rfl, by kernel_rfl, by kernel_rfl, by kernel_rfl, by kernel_rfl, by kernel_rfl, by kernel_rfl⟩, ?_⟩ | refine ⟨⟨by kernel_rfl, by kernel_rfl, by kernel_rfl, by kernel_rfl, by kernel_rfl, by kernel_rfl, by kernel_rfl, by kernel_rfl, by kernel_rfl, by kernel_rfl⟩, ?_⟩ | refine ⟨⟨by kernel_rfl, by kernel_rfl, by kernel_rfl, by kernel_rfl, by kernel_rfl, by kernel_rfl, by kernel_rfl, by kernel_rfl, by kernel_rfl, by kernel_rfl, by kernel_rfl⟩, ?_⟩ | refine ⟨⟨by kernel_rfl, by kernel_rfl, by kernel_rfl, by kernel_rfl, by kernel_rfl, by kernel_rfl, by kernel_rfl, by kernel_rfl, by kernel_rfl, by kernel_rfl, by kernel_rfl, by kernel_rfl⟩, ?_⟩ | refine ⟨⟨by kernel_rfl, by kernel_rfl, by kernel_rfl, by kernel_rfl, by kernel_rfl, by kernel_rfl, by kernel_rfl, by kernel_rfl, by kernel_rfl, by kernel_rfl, by kernel_rfl, by kernel_rfl, by kernel_rfl⟩, ?_⟩)
      refine hB _ ⟨i + 1, by omega⟩ [] (by simp only; omega) rfl ?_
      simp (maxSteps := 2000000) only [enA, ↓enP, Nat.reduceAdd, Nat.reduceMul, Nat.reduceSub, Nat.reduceLT, Nat.reduceLeDiff, Nat.reduceEqDiff, Nat.reduceBEq, ↓reduceIte, reduceCtorEq, fA, ei, ew, hs]
    | false =>
      have hw' : ((nth b.lines i).many * (nth b.lines i).each != (nth b.lines i).amount) = false := hw
      have hs : wrongN b (i + 1) = wrongN b i := by rw [wrongN_succ, hw]; simp
      simp (maxSteps := 2000000) only [vcA, ↓vcP, ↓reduceIte, reduceCtorEq, Nat.reduceAdd, Nat.reduceMul, Nat.reduceSub, Nat.reduceLT, Nat.reduceLeDiff, Nat.reduceEqDiff, Nat.reduceBEq, Nat.reduceBNe, Nat.reduceGT, Nat.reduceDiv, Nat.reduceMod, Int.reduceAdd, Int.reduceSub, Int.reduceNeg, Int.reduceLT, Int.reduceLE, Int.reduceEq, Int.reduceToNat, fA, p1, lnR, em, hw']
      repeat (first | refine ⟨by kernel_rfl, ?_⟩ | refine ⟨⟨by kernel_rfl, by kernel_rfl⟩, ?_⟩ | refine ⟨⟨by kernel_rfl, by kernel_rfl, by kernel_rfl⟩, ?_⟩ | refine ⟨⟨by kernel_rfl, by kernel_rfl, by kernel_rfl, by kernel_rfl⟩, ?_⟩ | refine ⟨⟨by kernel_rfl, by kernel_rfl, by kernel_rfl, by kernel_rfl, by kernel_rfl⟩, ?_⟩ | refine ⟨⟨by kernel_rfl, by kernel_rfl, by kernel_rfl, by kernel_rfl, by kernel_rfl, by kernel_rfl⟩, ?_⟩ | refine ⟨⟨by kernel_rfl, by kernel_rfl, by kernel_rfl, by kernel_rfl, by kernel_rfl, by kernel_rfl, by kernel_rfl⟩, ?_⟩ | refine ⟨⟨by kernel_rfl, by kernel_rfl, by kernel_rfl, by kernel_rfl, by kernel_rfl, by kernel_rfl, by kernel_rfl, by kernel_rfl⟩, ?_⟩ | refine ⟨⟨by kernel_rfl, by kernel_rfl, by kernel_rfl, by kernel_rfl, by kernel_rfl, by kernel_rfl, by kernel_rfl, by kernel_rfl, by kernel_rfl⟩, ?_⟩ | refine ⟨⟨by kernel_rfl, by kernel_rfl, by kernel_rfl, by kernel_rfl, by kernel_rfl, by kernel_rfl, by kernel_rfl, by kernel_rfl, by kernel_rfl, by kernel_rfl⟩, ?_⟩ | refine ⟨⟨by kernel_rfl, by kernel_rfl, by kernel_rfl, by kernel_rfl, by kernel_rfl, by kernel_rfl, by kernel_rfl, by kernel_rfl, by kernel_rfl, by kernel_rfl, by kernel_rfl⟩, ?_⟩ | refine ⟨⟨by kernel_rfl, by kernel_rfl, by kernel_rfl, by kernel_rfl, by kernel_rfl, by kernel_rfl, by kernel_rfl, by kernel_rfl, by kernel_rfl, by kernel_rfl, by kernel_rfl, by kernel_rfl⟩, ?_⟩ | refine ⟨⟨by kernel_rfl, by kernel_rfl, by kernel_rfl, by kernel_rfl, by kernel_rfl, by kernel_rfl, by kernel_rfl, by kernel_rfl, by kernel_rfl, by kernel_rfl, by kernel_rfl, by kernel_rfl, by kernel_rfl⟩, ?_⟩)
      refine hB _ ⟨i + 1, by omega⟩ [] (by simp only; omega) rfl ?_
      simp (maxSteps := 2000000) only [enA, ↓enP, Nat.reduceAdd, Nat.reduceMul, Nat.reduceSub, Nat.reduceLT, Nat.reduceLeDiff, Nat.reduceEqDiff, Nat.reduceBEq, ↓reduceIte, reduceCtorEq, fA, ei, hs]
  obtain rfl : i = b.lines.length := by omega
  clear hB
  have p1 : (b.lines.length < b.lines.length) = False := eq_false (by omega)
  have e3 : IntKind.i64.wrap (3 * (b.lines.length : Int)) = ((3 * b.lines.length : Nat) : Int) := by rw [wrap_id (by omega) (by omega)]; omega
  have e4 : IntKind.i64.wrap (((3 * b.lines.length : Nat) : Int) + 1) = ((b.lines.length * 3 + 1 : Nat) : Int) := by rw [wrap_id (by omega) (by omega)]; omega
  have hp2 : 2 ^ (b.lines.length * 3 + 1) ≤ 2 ^ 16 := Nat.pow_le_pow_right (by omega) (by omega)
  have e5 : IntKind.i64.wrap (1 * 2 ^ min (b.lines.length * 3 + 1) IntKind.i64.bits) = ((2 ^ (b.lines.length * 3 + 1) : Nat) : Int) := by
    have h64 : IntKind.i64.bits = 64 := rfl
    have : min (b.lines.length * 3 + 1) IntKind.i64.bits = b.lines.length * 3 + 1 := by omega
    rw [this]
    have e : (1 * 2 ^ (b.lines.length * 3 + 1) : Int) = ((2 ^ (b.lines.length * 3 + 1) : Nat) : Int) := by
      rw [Int.one_mul, Int.natCast_pow]
      rfl
    have hp3 : ((2 ^ (b.lines.length * 3 + 1) : Nat) : Int) ≤ ((2 ^ 16 : Nat) : Int) := Int.ofNat_le.2 hp2
    rw [e, wrap_id (Int.le_trans (by decide) (Int.natCast_nonneg _)) (Int.le_trans hp3 (by decide))]
  have e6 : (0 ≤ ((b.lines.length * 3 + 1 : Nat) : Int)) = True := eq_true (by omega)
  simp (maxSteps := 2000000) only [vcA, ↓vcP, ↓reduceIte, reduceCtorEq, Nat.reduceAdd, Nat.reduceMul, Nat.reduceSub, Nat.reduceLT, Nat.reduceLeDiff, Nat.reduceEqDiff, Nat.reduceBEq, Nat.reduceBNe, Nat.reduceGT, Nat.reduceDiv, Nat.reduceMod, Int.reduceAdd, Int.reduceSub, Int.reduceNeg, Int.reduceLT, Int.reduceLE, Int.reduceEq, Int.reduceToNat, fA, p1, e3, e4, e5, e6]
  -- all sets of numbers
  refine goC_loop (α := {i : Nat // i ≤ 2 ^ (b.lines.length * 3 + 1)}) (fun y => ⟨[(4, .ptr 40 0), (3, .v (.int .i64 0)), (2, bestA (chgT b (wrongN b b.lines.length) y.1)), (5, .v (.int .i64 (wrongN b b.lines.length))), (54, .v (.int .i64 ((2 ^ (b.lines.length * 3 + 1) : Nat) : Int))), (55, .v (.int .i64 y.1))], [(40, .box 114 [.ob 41 b.lines.length, .v (.int .i64 b.total)]), (41, .row 87 3 (b.lines.map lnR) false)] ++ bestO (chgT b (wrongN b b.lines.length) y.1)⟩) (fun y => 2 ^ (b.lines.length * 3 + 1) - y.1) ⟨0, Nat.zero_le _⟩ [] ?_ ?_
  · have : chgT b (wrongN b b.lines.length) 0 = [] := rfl
    simp (maxSteps := 2000000) only [enA, ↓enP, Nat.reduceAdd, Nat.reduceMul, Nat.reduceSub, Nat.reduceLT, Nat.reduceLeDiff, Nat.reduceEqDiff, Nat.reduceBEq, ↓reduceIte, reduceCtorEq, fA, this, bestA, bestO, List.append_nil]
    rfl
  intro y B hB
  obtain ⟨i, hi⟩ := y
  simp only at hB ⊢
  have hbo := chgT_ok (b := b) (by omega) (wrongN b b.lines.length) i
  by_cases ci : i < 2 ^ (b.lines.length * 3 + 1)
  · have hi2 := ci
    have p2 : ((i : Int) < ((2 ^ (b.lines.length * 3 + 1) : Nat) : Int)) = True := eq_true (by omega)
    have p2' : (i < 2 ^ (b.lines.length * 3 + 1)) = True := eq_true ci
    have ei : IntKind.i64.wrap ((i : Int) + 1) = ((i + 1 : Nat) : Int) := wrap_id (by omega) (by omega)
    have hll := rubT_len b i (b.lines.length * 3 + 1)
    have hll : (lessB b i).lines.length = b.lines.length := hll
    have hless : (lessB b i).Sm := rubT_sm hb i _
    have hml : (marksB b i).length ≤ b.lines.length * 3 + 1 := marksT_len _ _ _
    have pl := popc_le i
    obtain ⟨best, hbest⟩ : ∃ best, chgT b (wrongN b b.lines.length) i = best := ⟨_, rfl⟩
    rw [hbest] at hbo ⊢
    have count : ∀ (tm0 : List (Nat × AV)) (N0 : Nat), True := fun _ _ => trivial
    cases best with
    | nil =>
      simp (maxSteps := 2000000) only [vcA, ↓vcP, ↓reduceIte, reduceCtorEq, Nat.reduceAdd, Nat.reduceMul, Nat.reduceSub, Nat.reduceLT, Nat.reduceLeDiff, Nat.reduceEqDiff, Nat.reduceBEq, Nat.reduceBNe, Nat.reduceGT, Nat.reduceDiv, Nat.reduceMod, Int.reduceAdd, Int.reduceSub, Int.reduceNeg, Int.reduceLT, Int.reduceLE, Int.reduceEq, Int.reduceToNat, fA, p2, p2', bestA, bestO, List.append_nil]
      refine goC_loop (α := {y : Nat × Nat // popc y.2 + y.1 = popc i ∧ y.2 ≤ i}) (fun y => ⟨[(4, .ptr 40 0), (3, .v (.int .i64 0)), (2, .v (.slice none 0 0)), (5, .v (.int .i64 (wrongN b b.lines.length))), (8, .v (.int .i64 i)), (9, .v (.int .i64 y.1.1)), (10, .v (.int .i64 y.1.2)), (54, .v (.int .i64 ((2 ^ (b.lines.length * 3 + 1) : Nat) : Int))), (55, .v (.int .i64 i))], [(40, .box 114 [.ob 41 b.lines.length, .v (.int .i64 b.total)]), (41, .row 87 3 (b.lines.map lnR) false)]⟩) (fun y => y.1.2) ⟨(0, i), by simp only; omega, Nat.le_refl _⟩ [] ?_ ?_
      · simp (maxSteps := 2000000) only [enA, ↓enP, Nat.reduceAdd, Nat.reduceMul, Nat.reduceSub, Nat.reduceLT, Nat.reduceLeDiff, Nat.reduceEqDiff, Nat.reduceBEq, ↓reduceIte, reduceCtorEq, fA]
        rfl
      intro y B3 hB3
      obtain ⟨⟨n, k⟩, hnk, hki⟩ := y
      simp only at hB3 hnk hki ⊢
      by_cases ck : 0 < k
      · have g1 : ((k : Int) > 0) = True := eq_true (by omega)
        have g2 : ((0 : Int) < (k : Int)) = True := eq_true (by omega)
        have g3 : (0 < k) = True := eq_true ck
        have g4 : IntKind.i64.wrap ((n : Int) + 1) = ((n + 1 : Nat) : Int) := wrap_id (by omega) (by omega)
        have g5 : IntKind.i64.wrap ((k : Int) - 1) = ((k - 1 : Nat) : Int) := by rw [wrap_id (by omega) (by omega)]; omega
        have g6 := and_nat (a := k) (b := k - 1) (by omega) (by omega)
        have g7 := popc_step k ck
        have g8 : k &&& (k - 1) ≤ k - 1 := Nat.and_le_right
        simp (maxSteps := 2000000) only [vcA, ↓vcP, ↓reduceIte, reduceCtorEq, Nat.reduceAdd, Nat.reduceMul, Nat.reduceSub, Nat.reduceLT, Nat.reduceLeDiff, Nat.reduceEqDiff, Nat.reduceBEq, Nat.reduceBNe, Nat.reduceGT, Nat.reduceDiv, Nat.reduceMod, Int.reduceAdd, Int.reduceSub, Int.reduceNeg, Int.reduceLT, Int.reduceLE, Int.reduceEq, Int.reduceToNat, fA, g1, g2, g3, g4, g5, g6]
        refine hB3 _ ⟨(n + 1, k &&& (k - 1)), by simp only; omega, by simp only; omega⟩ [] (by simp only; omega) rfl ?_
        simp (maxSteps := 2000000) only [enA, ↓enP, Nat.reduceAdd, Nat.reduceMul, Nat.reduceSub, Nat.reduceLT, Nat.reduceLeDiff, Nat.reduceEqDiff, Nat.reduceBEq, ↓reduceIte, reduceCtorEq, fA, g4]
      obtain rfl : k = 0 := by omega
      rw [popc_zero, Nat.zero_add] at hnk
      subst hnk
      clear hB3
      have g1 : (((0 : Nat) : Int) > 0) = False := eq_false (by omega)
      have g1' : ((0 : Int) > 0) = False := eq_false (by omega)
      by_cases c1 : popc i < wrongN b b.lines.length
      · have q1 : ((popc i : Int) < (wrongN b b.lines.length : Int)) = True := eq_true (by omega)
        have q1' : (popc i < wrongN b b.lines.length) = True := eq_true c1
        have hs : chgT b (wrongN b b.lines.length) (i + 1) = ([] : List (Int × Int)) := by
          show stepC b (wrongN b b.lines.length) (chgT b (wrongN b b.lines.length) i) i = _
          rw [hbest]
          unfold stepC
          rw [if_pos (.inl c1)]
        simp (maxSteps := 2000000) only [vcA, ↓vcP, ↓reduceIte, reduceCtorEq, Nat.reduceAdd, Nat.reduceMul, Nat.reduceSub, Nat.reduceLT, Nat.reduceLeDiff, Nat.reduceEqDiff, Nat.reduceBEq, Nat.reduceBNe, Nat.reduceGT, Nat.reduceDiv, Nat.reduceMod, Int.reduceAdd, Int.reduceSub, Int.reduceNeg, Int.reduceLT, Int.reduceLE, Int.reduceEq, Int.reduceToNat, fA, g1, g1', q1, q1']
        refine hB _ ⟨i + 1, by omega⟩ [] (by simp only; omega) rfl ?_
        simp (maxSteps := 2000000) only [enA, ↓enP, Nat.reduceAdd, Nat.reduceMul, Nat.reduceSub, Nat.reduceLT, Nat.reduceLeDiff, Nat.reduceEqDiff, Nat.reduceBEq, ↓reduceIte, reduceCtorEq, fA, ei, hs, bestA, bestO, List.append_nil, List.cons_append, List.nil_append]

      have q1 : ((popc i : Int) < (wrongN b b.lines.length : Int)) = False := eq_false (by omega)
      have q1' : (popc i < wrongN b b.lines.length) = False := eq_false c1
      have ew : IntKind.i64.wrap ((wrongN b b.lines.length : Int) + 1) = ((wrongN b b.lines.length + 1 : Nat) : Int) := wrap_id (by omega) (by omega)
      by_cases c2 : popc i > wrongN b b.lines.length + 1
      · have q2 : ((popc i : Int) > ((wrongN b b.lines.length + 1 : Nat) : Int)) = True := eq_true (by omega)
        have q2' : (((wrongN b b.lines.length + 1 : Nat) : Int) < (popc i : Int)) = True := eq_true (by omega)
        have q2'' : (wrongN b b.lines.length + 1 < popc i) = True := eq_true c2
        have hs : chgT b (wrongN b b.lines.length) (i + 1) = ([] : List (Int × Int)) := by
          show stepC b (wrongN b b.lines.length) (chgT b (wrongN b b.lines.length) i) i = _
          rw [hbest]
          unfold stepC
          rw [if_pos (.inr (.inl c2))]
        simp (maxSteps := 2000000) only [vcA, ↓vcP, ↓reduceIte, reduceCtorEq, Nat.reduceAdd, Nat.reduceMul, Nat.reduceSub, Nat.reduceLT, Nat.reduceLeDiff, Nat.reduceEqDiff, Nat.reduceBEq, Nat.reduceBNe, Nat.reduceGT, Nat.reduceDiv, Nat.reduceMod, Int.reduceAdd, Int.reduceSub, Int.reduceNeg, Int.reduceLT, Int.reduceLE, Int.reduceEq, Int.reduceToNat, fA, g1, g1', q1, q1', ew, q2, q2', q2'']
        refine hB _ ⟨i + 1, by omega⟩ [] (by simp only; omega) rfl ?_
        simp (maxSteps := 2000000) only [enA, ↓enP, Nat.reduceAdd, Nat.reduceMul, Nat.reduceSub, Nat.reduceLT, Nat.reduceLeDiff, Nat.reduceEqDiff, Nat.reduceBEq, ↓reduceIte, reduceCtorEq, fA, ei, hs, bestA, bestO, List.append_nil, List.cons_append, List.nil_append]

      have q2 : ((popc i : Int) > ((wrongN b b.lines.length + 1 : Nat) : Int)) = False := eq_false (by omega)
      have q2' : (((wrongN b b.lines.length + 1 : Nat) : Int) < (popc i : Int)) = False := eq_false (by omega)
      have q2'' : (wrongN b b.lines.length + 1 < popc i) = False := eq_false (by omega)
      have hC1 : ¬ (popc i < wrongN b b.lines.length ∨ popc i > wrongN b b.lines.length + 1 ∨ (([] : List (Int × Int)) ≠ [] ∧ popc i > ([] : List (Int × Int)).length)) := fun h => h.elim c1 fun h => h.elim c2 fun h => h.1 rfl
      simp (maxSteps := 2000000) only [vcA, ↓vcP, ↓reduceIte, reduceCtorEq, Nat.reduceAdd, Nat.reduceMul, Nat.reduceSub, Nat.reduceLT, Nat.reduceLeDiff, Nat.reduceEqDiff, Nat.reduceBEq, Nat.reduceBNe, Nat.reduceGT, Nat.reduceDiv, Nat.reduceMod, Int.reduceAdd, Int.reduceSub, Int.reduceNeg, Int.reduceLT, Int.reduceLE, Int.reduceEq, Int.reduceToNat, fA, g1, g1', q1, q1', ew, q2, q2', q2'']
      refine onF_call (rubbed_spec b i (by omega) hlen) [] [] [40, 41] ?_ ?_
      · simp (maxSteps := 2000000) only [okA, ↓okP, Nat.reduceAdd, Nat.reduceMul, Nat.reduceSub, Nat.reduceLT, Nat.reduceLeDiff, Nat.reduceEqDiff, Nat.reduceBEq, ↓reduceIte, reduceCtorEq]
      cases hh : (lessB b i).lines.any hopeless with
      | true =>
        have hhs := isHopeless_spec (lessB b i) hless
        rw [hll, hh] at hhs
        simp (maxSteps := 2000000) only [vcA, ↓vcP, ↓reduceIte, reduceCtorEq, Nat.reduceAdd, Nat.reduceMul, Nat.reduceSub, Nat.reduceLT, Nat.reduceLeDiff, Nat.reduceEqDiff, Nat.reduceBEq, Nat.reduceBNe, Nat.reduceGT, Nat.reduceDiv, Nat.reduceMod, Int.reduceAdd, Int.reduceSub, Int.reduceNeg, Int.reduceLT, Int.reduceLE, Int.reduceEq, Int.reduceToNat, fA, g1, g1', q1, q1', ew, q2, q2', q2'']
        refine onF_call hhs [] [] [616, 617] ?_ ?_
        · simp (maxSteps := 2000000) only [okA, ↓okP, Nat.reduceAdd, Nat.reduceMul, Nat.reduceSub, Nat.reduceLT, Nat.reduceLeDiff, Nat.reduceEqDiff, Nat.reduceBEq, ↓reduceIte, reduceCtorEq, lessB]
        have hs : chgT b (wrongN b b.lines.length) (i + 1) = ([] : List (Int × Int)) := by
          show stepC b (wrongN b b.lines.length) (chgT b (wrongN b b.lines.length) i) i = _
          rw [hbest]
          unfold stepC
          rw [if_neg hC1, if_pos (.inr (.inl hh))]
        simp (maxSteps := 2000000) only [vcA, ↓vcP, ↓reduceIte, reduceCtorEq, Nat.reduceAdd, Nat.reduceMul, Nat.reduceSub, Nat.reduceLT, Nat.reduceLeDiff, Nat.reduceEqDiff, Nat.reduceBEq, Nat.reduceBNe, Nat.reduceGT, Nat.reduceDiv, Nat.reduceMod, Int.reduceAdd, Int.reduceSub, Int.reduceNeg, Int.reduceLT, Int.reduceLE, Int.reduceEq, Int.reduceToNat, fA, g1, g1', q1, q1', ew, q2, q2', q2'']
        refine hB _ ⟨i + 1, by omega⟩ [] (by simp only; omega) rfl ?_
        simp (maxSteps := 2000000) only [enA, ↓enP, Nat.reduceAdd, Nat.reduceMul, Nat.reduceSub, Nat.reduceLT, Nat.reduceLeDiff, Nat.reduceEqDiff, Nat.reduceBEq, ↓reduceIte, reduceCtorEq, fA, ei, hs, bestA, bestO, List.append_nil, List.cons_append, List.nil_append]

      | false =>
      have hhs := isHopeless_spec (lessB b i) hless
      rw [hll, hh] at hhs
      simp (maxSteps := 2000000) only [vcA, ↓vcP, ↓reduceIte, reduceCtorEq, Nat.reduceAdd, Nat.reduceMul, Nat.reduceSub, Nat.reduceLT, Nat.reduceLeDiff, Nat.reduceEqDiff, Nat.reduceBEq, Nat.reduceBNe, Nat.reduceGT, Nat.reduceDiv, Nat.reduceMod, Int.reduceAdd, Int.reduceSub, Int.reduceNeg, Int.reduceLT, Int.reduceLE, Int.reduceEq, Int.reduceToNat, fA, g1, g1', q1, q1', ew, q2, q2', q2'']
      refine onF_call hhs [] [] [616, 617] ?_ ?_
      · simp (maxSteps := 2000000) only [okA, ↓okP, Nat.reduceAdd, Nat.reduceMul, Nat.reduceSub, Nat.reduceLT, Nat.reduceLeDiff, Nat.reduceEqDiff, Nat.reduceBEq, ↓reduceIte, reduceCtorEq, lessB]
      simp (maxSteps := 2000000) only [vcA, ↓vcP, ↓reduceIte, reduceCtorEq, Nat.reduceAdd, Nat.reduceMul, Nat.reduceSub, Nat.reduceLT, Nat.reduceLeDiff, Nat.reduceEqDiff, Nat.reduceBEq, Nat.reduceBNe, Nat.reduceGT, Nat.reduceDiv, Nat.reduceMod, Int.reduceAdd, Int.reduceSub, Int.reduceNeg, Int.reduceLT, Int.reduceLE, Int.reduceEq, Int.reduceToNat, fA]
      cases hps : isPos (lessB b i) with
      | false =>
        have hpo := possible_spec (lessB b i) (by rw [hll]; exact hlen)
        rw [hll, hps] at hpo
        refine onF_call hpo [] [] [616, 617] ?_ ?_
        · simp (maxSteps := 2000000) only [okA, ↓okP, Nat.reduceAdd, Nat.reduceMul, Nat.reduceSub, Nat.reduceLT, Nat.reduceLeDiff, Nat.reduceEqDiff, Nat.reduceBEq, ↓reduceIte, reduceCtorEq, lessB]
        have hs : chgT b (wrongN b b.lines.length) (i + 1) = ([] : List (Int × Int)) := by
          show stepC b (wrongN b b.lines.length) (chgT b (wrongN b b.lines.length) i) i = _
          rw [hbest]
          unfold stepC
          rw [if_neg hC1, if_pos (.inr (.inr hps))]
        simp (maxSteps := 2000000) only [vcA, ↓vcP, ↓reduceIte, reduceCtorEq, Nat.reduceAdd, Nat.reduceMul, Nat.reduceSub, Nat.reduceLT, Nat.reduceLeDiff, Nat.reduceEqDiff, Nat.reduceBEq, Nat.reduceBNe, Nat.reduceGT, Nat.reduceDiv, Nat.reduceMod, Int.reduceAdd, Int.reduceSub, Int.reduceNeg, Int.reduceLT, Int.reduceLE, Int.reduceEq, Int.reduceToNat, fA, g1, g1', q1, q1', ew, q2, q2', q2'']
        refine hB _ ⟨i + 1, by omega⟩ [] (by simp only; omega) rfl ?_
        simp (maxSteps := 2000000) only [enA, ↓enP, Nat.reduceAdd, Nat.reduceMul, Nat.reduceSub, Nat.reduceLT, Nat.reduceLeDiff, Nat.reduceEqDiff, Nat.reduceBEq, ↓reduceIte, reduceCtorEq, fA, ei, hs, bestA, bestO, List.append_nil, List.cons_append, List.nil_append]

      | true =>
      have hpo := possible_spec (lessB b i) (by rw [hll]; exact hlen)
      rw [hll, hps] at hpo
      refine onF_call hpo [] [] [616, 617] ?_ ?_
      · simp (maxSteps := 2000000) only [okA, ↓okP, Nat.reduceAdd, Nat.reduceMul, Nat.reduceSub, Nat.reduceLT, Nat.reduceLeDiff, Nat.reduceEqDiff, Nat.reduceBEq, ↓reduceIte, reduceCtorEq, lessB]
      have hs : chgT b (wrongN b b.lines.length) (i + 1) = marksB b i := by
        show stepC b (wrongN b b.lines.length) (chgT b (wrongN b b.lines.length) i) i = _
        rw [hbest]
        unfold stepC
        rw [if_neg hC1, if_neg (fun h => h.elim (fun h => h.1 rfl) fun h => h.elim (fun h => by rw [hh] at h; cases h) fun h => by rw [hps] at h; cases h)]
      have hmne : marksB b i ≠ [] := fun h => by
        have hz : popc i = 0 := by
          have := marksT_count (n := b.lines.length) hi2
          have h' : marksT b.lines.length i (b.lines.length * 3 + 1) = [] := h
          rw [h'] at this
          exact this.symm
        rw [lessB_zero hi2 hz] at hps
        rw [hnp] at hps
        cases hps
      obtain ⟨m1, l1x, hm1⟩ := List.exists_cons_of_ne_nil hmne
      have hmk : marksT b.lines.length i (b.lines.length * 3 + 1) = m1 :: l1x := hm1
      rw [hm1] at hs
      simp (maxSteps := 2000000) only [vcA, ↓vcP, ↓reduceIte, reduceCtorEq, Nat.reduceAdd, Nat.reduceMul, Nat.reduceSub, Nat.reduceLT, Nat.reduceLeDiff, Nat.reduceEqDiff, Nat.reduceBEq, Nat.reduceBNe, Nat.reduceGT, Nat.reduceDiv, Nat.reduceMod, Int.reduceAdd, Int.reduceSub, Int.reduceNeg, Int.reduceLT, Int.reduceLE, Int.reduceEq, Int.reduceToNat, fA, g1, g1', q1, q1', ew, q2, q2', q2'', hmk]
      refine hB _ ⟨i + 1, by omega⟩ [some 618] (by simp only; omega) rfl ?_
      simp (maxSteps := 2000000) only [enA, ↓enP, Nat.reduceAdd, Nat.reduceMul, Nat.reduceSub, Nat.reduceLT, Nat.reduceLeDiff, Nat.reduceEqDiff, Nat.reduceBEq, ↓reduceIte, reduceCtorEq, fA, ei, hs, bestA, bestO, hmk, List.append_nil, List.cons_append, List.nil_append]

    | cons m0 l0 =>
      simp (maxSteps := 2000000) only [vcA, ↓vcP, ↓reduceIte, reduceCtorEq, Nat.reduceAdd, Nat.reduceMul, Nat.reduceSub, Nat.reduceLT, Nat.reduceLeDiff, Nat.reduceEqDiff, Nat.reduceBEq, Nat.reduceBNe, Nat.reduceGT, Nat.reduceDiv, Nat.reduceMod, Int.reduceAdd, Int.reduceSub, Int.reduceNeg, Int.reduceLT, Int.reduceLE, Int.reduceEq, Int.reduceToNat, fA, p2, p2', bestA, bestO, List.cons_append, List.nil_append]
      refine goC_loop (α := {y : Nat × Nat // popc y.2 + y.1 = popc i ∧ y.2 ≤ i}) (fun y => ⟨[(4, .ptr 40 0), (3, .v (.int .i64 0)), (2, .ob 320 (m0 :: l0).length), (5, .v (.int .i64 (wrongN b b.lines.length))), (8, .v (.int .i64 i)), (9, .v (.int .i64 y.1.1)), (10, .v (.int .i64 y.1.2)), (54, .v (.int .i64 ((2 ^ (b.lines.length * 3 + 1) : Nat) : Int))), (55, .v (.int .i64 i))], [(40, .box 114 [.ob 41 b.lines.length, .v (.int .i64 b.total)]), (41, .row 87 3 (b.lines.map lnR) false), (320, .row 71 2 ((m0 :: l0).map mkR) false)]⟩) (fun y => y.1.2) ⟨(0, i), by simp only; omega, Nat.le_refl _⟩ [] ?_ ?_
      · simp (maxSteps := 2000000) only [enA, ↓enP, Nat.reduceAdd, Nat.reduceMul, Nat.reduceSub, Nat.reduceLT, Nat.reduceLeDiff, Nat.reduceEqDiff, Nat.reduceBEq, ↓reduceIte, reduceCtorEq, fA]
        rfl
      intro y B3 hB3
      obtain ⟨⟨n, k⟩, hnk, hki⟩ := y
      simp only at hB3 hnk hki ⊢
      by_cases ck : 0 < k
      · have g1 : ((k : Int) > 0) = True := eq_true (by omega)
        have g2 : ((0 : Int) < (k : Int)) = True := eq_true (by omega)
        have g3 : (0 < k) = True := eq_true ck
        have g4 : IntKind.i64.wrap ((n : Int) + 1) = ((n + 1 : Nat) : Int) := wrap_id (by omega) (by omega)
        have g5 : IntKind.i64.wrap ((k : Int) - 1) = ((k - 1 : Nat) : Int) := by rw [wrap_id (by omega) (by omega)]; omega
        have g6 := and_nat (a := k) (b := k - 1) (by omega) (by omega)
        have g7 := popc_step k ck
        have g8 : k &&& (k - 1) ≤ k - 1 := Nat.and_le_right
        simp (maxSteps := 2000000) only [vcA, ↓vcP, ↓reduceIte, reduceCtorEq, Nat.reduceAdd, Nat.reduceMul, Nat.reduceSub, Nat.reduceLT, Nat.reduceLeDiff, Nat.reduceEqDiff, Nat.reduceBEq, Nat.reduceBNe, Nat.reduceGT, Nat.reduceDiv, Nat.reduceMod, Int.reduceAdd, Int.reduceSub, Int.reduceNeg, Int.reduceLT, Int.reduceLE, Int.reduceEq, Int.reduceToNat, fA, g1, g2, g3, g4, g5, g6]
        refine hB3 _ ⟨(n + 1, k &&& (k - 1)), by simp only; omega, by simp only; omega⟩ [] (by simp only; omega) rfl ?_
        simp (maxSteps := 2000000) only [enA, ↓enP, Nat.reduceAdd, Nat.reduceMul, Nat.reduceSub, Nat.reduceLT, Nat.reduceLeDiff, Nat.reduceEqDiff, Nat.reduceBEq, ↓reduceIte, reduceCtorEq, fA, g4]
      obtain rfl : k = 0 := by omega
      rw [popc_zero, Nat.zero_add] at hnk
      subst hnk
      clear hB3
      have g1 : (((0 : Nat) : Int) > 0) = False := eq_false (by omega)
      have g1' : ((0 : Int) > 0) = False := eq_false (by omega)
      by_cases c1 : popc i < wrongN b b.lines.length
      · have q1 : ((popc i : Int) < (wrongN b b.lines.length : Int)) = True := eq_true (by omega)
        have q1' : (popc i < wrongN b b.lines.length) = True := eq_true c1
        have hs : chgT b (wrongN b b.lines.length) (i + 1) = (m0 :: l0) := by
          show stepC b (wrongN b b.lines.length) (chgT b (wrongN b b.lines.length) i) i = _
          rw [hbest]
          unfold stepC
          rw [if_pos (.inl c1)]
        simp (maxSteps := 2000000) only [vcA, ↓vcP, ↓reduceIte, reduceCtorEq, Nat.reduceAdd, Nat.reduceMul, Nat.reduceSub, Nat.reduceLT, Nat.reduceLeDiff, Nat.reduceEqDiff, Nat.reduceBEq, Nat.reduceBNe, Nat.reduceGT, Nat.reduceDiv, Nat.reduceMod, Int.reduceAdd, Int.reduceSub, Int.reduceNeg, Int.reduceLT, Int.reduceLE, Int.reduceEq, Int.reduceToNat, fA, g1, g1', q1, q1']
        refine hB _ ⟨i + 1, by omega⟩ [some 320] (by simp only; omega) rfl ?_
        simp (maxSteps := 2000000) only [enA, ↓enP, Nat.reduceAdd, Nat.reduceMul, Nat.reduceSub, Nat.reduceLT, Nat.reduceLeDiff, Nat.reduceEqDiff, Nat.reduceBEq, ↓reduceIte, reduceCtorEq, fA, ei, hs, bestA, bestO, List.append_nil, List.cons_append, List.nil_append]

      have q1 : ((popc i : Int) < (wrongN b b.lines.length : Int)) = False := eq_false (by omega)
      have q1' : (popc i < wrongN b b.lines.length) = False := eq_false c1
      have ew : IntKind.i64.wrap ((wrongN b b.lines.length : Int) + 1) = ((wrongN b b.lines.length + 1 : Nat) : Int) := wrap_id (by omega) (by omega)
      by_cases c2 : popc i > wrongN b b.lines.length + 1
      · have q2 : ((popc i : Int) > ((wrongN b b.lines.length + 1 : Nat) : Int)) = True := eq_true (by omega)
        have q2' : (((wrongN b b.lines.length + 1 : Nat) : Int) < (popc i : Int)) = True := eq_true (by omega)
        have q2'' : (wrongN b b.lines.length + 1 < popc i) = True := eq_true c2
        have hs : chgT b (wrongN b b.lines.length) (i + 1) = (m0 :: l0) := by
          show stepC b (wrongN b b.lines.length) (chgT b (wrongN b b.lines.length) i) i = _
          rw [hbest]
          unfold stepC
          rw [if_pos (.inr (.inl c2))]
        simp (maxSteps := 2000000) only [vcA, ↓vcP, ↓reduceIte, reduceCtorEq, Nat.reduceAdd, Nat.reduceMul, Nat.reduceSub, Nat.reduceLT, Nat.reduceLeDiff, Nat.reduceEqDiff, Nat.reduceBEq, Nat.reduceBNe, Nat.reduceGT, Nat.reduceDiv, Nat.reduceMod, Int.reduceAdd, Int.reduceSub, Int.reduceNeg, Int.reduceLT, Int.reduceLE, Int.reduceEq, Int.reduceToNat, fA, g1, g1', q1, q1', ew, q2, q2', q2'']
        refine hB _ ⟨i + 1, by omega⟩ [some 320] (by simp only; omega) rfl ?_
        simp (maxSteps := 2000000) only [enA, ↓enP, Nat.reduceAdd, Nat.reduceMul, Nat.reduceSub, Nat.reduceLT, Nat.reduceLeDiff, Nat.reduceEqDiff, Nat.reduceBEq, ↓reduceIte, reduceCtorEq, fA, ei, hs, bestA, bestO, List.append_nil, List.cons_append, List.nil_append]

      have q2 : ((popc i : Int) > ((wrongN b b.lines.length + 1 : Nat) : Int)) = False := eq_false (by omega)
      have q2' : (((wrongN b b.lines.length + 1 : Nat) : Int) < (popc i : Int)) = False := eq_false (by omega)
      have q2'' : (wrongN b b.lines.length + 1 < popc i) = False := eq_false (by omega)
      have l1 : ((m0 :: l0).length = 0) = False := eq_false (by simp)
      have l1' : (l0.length + 1 = 0) = False := eq_false (by omega)
      by_cases c3 : popc i > (m0 :: l0).length
      · have q3 : ((popc i : Int) > ((l0.length + 1 : Nat) : Int)) = True := eq_true (by simp at c3; omega)
        have q3' : (((l0.length + 1 : Nat) : Int) < (popc i : Int)) = True := eq_true (by simp at c3; omega)
        have q3'' : (l0.length + 1 < popc i) = True := eq_true (by simpa using c3)
        have hs : chgT b (wrongN b b.lines.length) (i + 1) = (m0 :: l0) := by
          show stepC b (wrongN b b.lines.length) (chgT b (wrongN b b.lines.length) i) i = _
          rw [hbest]
          unfold stepC
          rw [if_pos (.inr (.inr ⟨List.cons_ne_nil m0 l0, c3⟩))]
        simp (maxSteps := 2000000) only [vcA, ↓vcP, ↓reduceIte, reduceCtorEq, Nat.reduceAdd, Nat.reduceMul, Nat.reduceSub, Nat.reduceLT, Nat.reduceLeDiff, Nat.reduceEqDiff, Nat.reduceBEq, Nat.reduceBNe, Nat.reduceGT, Nat.reduceDiv, Nat.reduceMod, Int.reduceAdd, Int.reduceSub, Int.reduceNeg, Int.reduceLT, Int.reduceLE, Int.reduceEq, Int.reduceToNat, fA, g1, g1', q1, q1', ew, q2, q2', q2'', l1, l1', q3, q3', q3'']
        refine hB _ ⟨i + 1, by omega⟩ [some 320] (by simp only; omega) rfl ?_
        simp (maxSteps := 2000000) only [enA, ↓enP, Nat.reduceAdd, Nat.reduceMul, Nat.reduceSub, Nat.reduceLT, Nat.reduceLeDiff, Nat.reduceEqDiff, Nat.reduceBEq, ↓reduceIte, reduceCtorEq, fA, ei, hs, bestA, bestO, List.append_nil, List.cons_append, List.nil_append]

      have q3 : ((popc i : Int) > ((l0.length + 1 : Nat) : Int)) = False := eq_false (by simp at c3; omega)
      have q3' : (((l0.length + 1 : Nat) : Int) < (popc i : Int)) = False := eq_false (by simp at c3; omega)
      have q3'' : (l0.length + 1 < popc i) = False := eq_false (by simpa using c3)
      have hC1 : ¬ (popc i < wrongN b b.lines.length ∨ popc i > wrongN b b.lines.length + 1 ∨ ((m0 :: l0) ≠ [] ∧ popc i > (m0 :: l0).length)) := fun h => h.elim c1 fun h => h.elim c2 fun h => c3 h.2
      simp (maxSteps := 2000000) only [vcA, ↓vcP, ↓reduceIte, reduceCtorEq, Nat.reduceAdd, Nat.reduceMul, Nat.reduceSub, Nat.reduceLT, Nat.reduceLeDiff, Nat.reduceEqDiff, Nat.reduceBEq, Nat.reduceBNe, Nat.reduceGT, Nat.reduceDiv, Nat.reduceMod, Int.reduceAdd, Int.reduceSub, Int.reduceNeg, Int.reduceLT, Int.reduceLE, Int.reduceEq, Int.reduceToNat, fA, g1, g1', q1, q1', ew, q2, q2', q2'', l1, l1', q3, q3', q3'']
      refine onF_call (rubbed_spec b i (by omega) hlen) [] [] [40, 41] ?_ ?_
      · simp (maxSteps := 2000000) only [okA, ↓okP, Nat.reduceAdd, Nat.reduceMul, Nat.reduceSub, Nat.reduceLT, Nat.reduceLeDiff, Nat.reduceEqDiff, Nat.reduceBEq, ↓reduceIte, reduceCtorEq]
      by_cases c4 : popc i = (m0 :: l0).length
      · have q4 : ((popc i : Int) == ((l0.length + 1 : Nat) : Int)) = true := by rw [beq_iff_eq]; simp at c4; omega
        by_cases c5 : cmpL (marksB b i) (m0 :: l0) > 0
        · have q5 : (cmpL (marksB b i) (m0 :: l0) > 0) = True := eq_true c5
          have q5' : (0 < cmpL (marksB b i) (m0 :: l0)) = True := eq_true c5
          simp (maxSteps := 2000000) only [vcA, ↓vcP, ↓reduceIte, reduceCtorEq, Nat.reduceAdd, Nat.reduceMul, Nat.reduceSub, Nat.reduceLT, Nat.reduceLeDiff, Nat.reduceEqDiff, Nat.reduceBEq, Nat.reduceBNe, Nat.reduceGT, Nat.reduceDiv, Nat.reduceMod, Int.reduceAdd, Int.reduceSub, Int.reduceNeg, Int.reduceLT, Int.reduceLE, Int.reduceEq, Int.reduceToNat, fA, l1, l1', q4]
          refine onF_call (compare_spec (marksB b i) (m0 :: l0) (marksB_ok (by omega) i) hbo.1 (by omega) (by simp; simp at hbo; omega)) [] [618, 320] [] ?_ ?_
          · simp (maxSteps := 2000000) only [okA, ↓okP, Nat.reduceAdd, Nat.reduceMul, Nat.reduceSub, Nat.reduceLT, Nat.reduceLeDiff, Nat.reduceEqDiff, Nat.reduceBEq, ↓reduceIte, reduceCtorEq, marksB, List.map_cons]
          have hs : chgT b (wrongN b b.lines.length) (i + 1) = (m0 :: l0) := by
            show stepC b (wrongN b b.lines.length) (chgT b (wrongN b b.lines.length) i) i = _
            rw [hbest]
            unfold stepC
            rw [if_neg hC1, if_pos (.inl ⟨List.cons_ne_nil m0 l0, c4, c5⟩)]
          simp (maxSteps := 2000000) only [vcA, ↓vcP, ↓reduceIte, reduceCtorEq, Nat.reduceAdd, Nat.reduceMul, Nat.reduceSub, Nat.reduceLT, Nat.reduceLeDiff, Nat.reduceEqDiff, Nat.reduceBEq, Nat.reduceBNe, Nat.reduceGT, Nat.reduceDiv, Nat.reduceMod, Int.reduceAdd, Int.reduceSub, Int.reduceNeg, Int.reduceLT, Int.reduceLE, Int.reduceEq, Int.reduceToNat, fA, l1, l1', q4, q5, q5']
          refine hB _ ⟨i + 1, by omega⟩ [some 320] (by simp only; omega) rfl ?_
          simp (maxSteps := 2000000) only [enA, ↓enP, Nat.reduceAdd, Nat.reduceMul, Nat.reduceSub, Nat.reduceLT, Nat.reduceLeDiff, Nat.reduceEqDiff, Nat.reduceBEq, ↓reduceIte, reduceCtorEq, fA, ei, hs, bestA, bestO, List.append_nil, List.cons_append, List.nil_append]

        · have q5 : (cmpL (marksB b i) (m0 :: l0) > 0) = False := eq_false c5
          have q5' : (0 < cmpL (marksB b i) (m0 :: l0)) = False := eq_false c5
          simp (maxSteps := 2000000) only [vcA, ↓vcP, ↓reduceIte, reduceCtorEq, Nat.reduceAdd, Nat.reduceMul, Nat.reduceSub, Nat.reduceLT, Nat.reduceLeDiff, Nat.reduceEqDiff, Nat.reduceBEq, Nat.reduceBNe, Nat.reduceGT, Nat.reduceDiv, Nat.reduceMod, Int.reduceAdd, Int.reduceSub, Int.reduceNeg, Int.reduceLT, Int.reduceLE, Int.reduceEq, Int.reduceToNat, fA, l1, l1', q4]
          refine onF_call (compare_spec (marksB b i) (m0 :: l0) (marksB_ok (by omega) i) hbo.1 (by omega) (by simp; simp at hbo; omega)) [] [618, 320] [] ?_ ?_
          · simp (maxSteps := 2000000) only [okA, ↓okP, Nat.reduceAdd, Nat.reduceMul, Nat.reduceSub, Nat.reduceLT, Nat.reduceLeDiff, Nat.reduceEqDiff, Nat.reduceBEq, ↓reduceIte, reduceCtorEq, marksB, List.map_cons]
          cases hh : (lessB b i).lines.any hopeless with
          | true =>
            have hhs := isHopeless_spec (lessB b i) hless
            rw [hll, hh] at hhs
            simp (maxSteps := 2000000) only [vcA, ↓vcP, ↓reduceIte, reduceCtorEq, Nat.reduceAdd, Nat.reduceMul, Nat.reduceSub, Nat.reduceLT, Nat.reduceLeDiff, Nat.reduceEqDiff, Nat.reduceBEq, Nat.reduceBNe, Nat.reduceGT, Nat.reduceDiv, Nat.reduceMod, Int.reduceAdd, Int.reduceSub, Int.reduceNeg, Int.reduceLT, Int.reduceLE, Int.reduceEq, Int.reduceToNat, fA, l1, l1', q4, q5, q5']
            refine onF_call hhs [] [] [616, 617] ?_ ?_
            · simp (maxSteps := 2000000) only [okA, ↓okP, Nat.reduceAdd, Nat.reduceMul, Nat.reduceSub, Nat.reduceLT, Nat.reduceLeDiff, Nat.reduceEqDiff, Nat.reduceBEq, ↓reduceIte, reduceCtorEq, lessB]
            have hs : chgT b (wrongN b b.lines.length) (i + 1) = (m0 :: l0) := by
              show stepC b (wrongN b b.lines.length) (chgT b (wrongN b b.lines.length) i) i = _
              rw [hbest]
              unfold stepC
              rw [if_neg hC1, if_pos (.inr (.inl hh))]
            simp (maxSteps := 2000000) only [vcA, ↓vcP, ↓reduceIte, reduceCtorEq, Nat.reduceAdd, Nat.reduceMul, Nat.reduceSub, Nat.reduceLT, Nat.reduceLeDiff, Nat.reduceEqDiff, Nat.reduceBEq, Nat.reduceBNe, Nat.reduceGT, Nat.reduceDiv, Nat.reduceMod, Int.reduceAdd, Int.reduceSub, Int.reduceNeg, Int.reduceLT, Int.reduceLE, Int.reduceEq, Int.reduceToNat, fA, l1, l1', q4, q5, q5']
            refine hB _ ⟨i + 1, by omega⟩ [some 320] (by simp only; omega) rfl ?_
            simp (maxSteps := 2000000) only [enA, ↓enP, Nat.reduceAdd, Nat.reduceMul, Nat.reduceSub, Nat.reduceLT, Nat.reduceLeDiff, Nat.reduceEqDiff, Nat.reduceBEq, ↓reduceIte, reduceCtorEq, fA, ei, hs, bestA, bestO, List.append_nil, List.cons_append, List.nil_append]

          | false =>
          have hhs := isHopeless_spec (lessB b i) hless
          rw [hll, hh] at hhs
          simp (maxSteps := 2000000) only [vcA, ↓vcP, ↓reduceIte, reduceCtorEq, Nat.reduceAdd, Nat.reduceMul, Nat.reduceSub, Nat.reduceLT, Nat.reduceLeDiff, Nat.reduceEqDiff, Nat.reduceBEq, Nat.reduceBNe, Nat.reduceGT, Nat.reduceDiv, Nat.reduceMod, Int.reduceAdd, Int.reduceSub, Int.reduceNeg, Int.reduceLT, Int.reduceLE, Int.reduceEq, Int.reduceToNat, fA, l1, l1', q4, q5, q5']
          refine onF_call hhs [] [] [616, 617] ?_ ?_
          · simp (maxSteps := 2000000) only [okA, ↓okP, Nat.reduceAdd, Nat.reduceMul, Nat.reduceSub, Nat.reduceLT, Nat.reduceLeDiff, Nat.reduceEqDiff, Nat.reduceBEq, ↓reduceIte, reduceCtorEq, lessB]
          simp (maxSteps := 2000000) only [vcA, ↓vcP, ↓reduceIte, reduceCtorEq, Nat.reduceAdd, Nat.reduceMul, Nat.reduceSub, Nat.reduceLT, Nat.reduceLeDiff, Nat.reduceEqDiff, Nat.reduceBEq, Nat.reduceBNe, Nat.reduceGT, Nat.reduceDiv, Nat.reduceMod, Int.reduceAdd, Int.reduceSub, Int.reduceNeg, Int.reduceLT, Int.reduceLE, Int.reduceEq, Int.reduceToNat, fA]
          cases hps : isPos (lessB b i) with
          | false =>
            have hpo := possible_spec (lessB b i) (by rw [hll]; exact hlen)
            rw [hll, hps] at hpo
            refine onF_call hpo [] [] [616, 617] ?_ ?_
            · simp (maxSteps := 2000000) only [okA, ↓okP, Nat.reduceAdd, Nat.reduceMul, Nat.reduceSub, Nat.reduceLT, Nat.reduceLeDiff, Nat.reduceEqDiff, Nat.reduceBEq, ↓reduceIte, reduceCtorEq, lessB]
            have hs : chgT b (wrongN b b.lines.length) (i + 1) = (m0 :: l0) := by
              show stepC b (wrongN b b.lines.length) (chgT b (wrongN b b.lines.length) i) i = _
              rw [hbest]
              unfold stepC
              rw [if_neg hC1, if_pos (.inr (.inr hps))]
            simp (maxSteps := 2000000) only [vcA, ↓vcP, ↓reduceIte, reduceCtorEq, Nat.reduceAdd, Nat.reduceMul, Nat.reduceSub, Nat.reduceLT, Nat.reduceLeDiff, Nat.reduceEqDiff, Nat.reduceBEq, Nat.reduceBNe, Nat.reduceGT, Nat.reduceDiv, Nat.reduceMod, Int.reduceAdd, Int.reduceSub, Int.reduceNeg, Int.reduceLT, Int.reduceLE, Int.reduceEq, Int.reduceToNat, fA, l1, l1', q4, q5, q5']
            refine hB _ ⟨i + 1, by omega⟩ [some 320] (by simp only; omega) rfl ?_
            simp (maxSteps := 2000000) only [enA, ↓enP, Nat.reduceAdd, Nat.reduceMul, Nat.reduceSub, Nat.reduceLT, Nat.reduceLeDiff, Nat.reduceEqDiff, Nat.reduceBEq, ↓reduceIte, reduceCtorEq, fA, ei, hs, bestA, bestO, List.append_nil, List.cons_append, List.nil_append]

          | true =>
          have hpo := possible_spec (lessB b i) (by rw [hll]; exact hlen)
          rw [hll, hps] at hpo
          refine onF_call hpo [] [] [616, 617] ?_ ?_
          · simp (maxSteps := 2000000) only [okA, ↓okP, Nat.reduceAdd, Nat.reduceMul, Nat.reduceSub, Nat.reduceLT, Nat.reduceLeDiff, Nat.reduceEqDiff, Nat.reduceBEq, ↓reduceIte, reduceCtorEq, lessB]
          have hs : chgT b (wrongN b b.lines.length) (i + 1) = marksB b i := by
            show stepC b (wrongN b b.lines.length) (chgT b (wrongN b b.lines.length) i) i = _
            rw [hbest]
            unfold stepC
            rw [if_neg hC1, if_neg (fun h => h.elim (fun h => c5 h.2.2) fun h => h.elim (fun h => by rw [hh] at h; cases h) fun h => by rw [hps] at h; cases h)]
          have hmne : marksB b i ≠ [] := fun h => by
            have hz : popc i = 0 := by
              have := marksT_count (n := b.lines.length) hi2
              have h' : marksT b.lines.length i (b.lines.length * 3 + 1) = [] := h
              rw [h'] at this
              exact this.symm
            rw [lessB_zero hi2 hz] at hps
            rw [hnp] at hps
            cases hps
          obtain ⟨m1, l1x, hm1⟩ := List.exists_cons_of_ne_nil hmne
          have hmk : marksT b.lines.length i (b.lines.length * 3 + 1) = m1 :: l1x := hm1
          rw [hm1] at hs
          simp (maxSteps := 2000000) only [vcA, ↓vcP, ↓reduceIte, reduceCtorEq, Nat.reduceAdd, Nat.reduceMul, Nat.reduceSub, Nat.reduceLT, Nat.reduceLeDiff, Nat.reduceEqDiff, Nat.reduceBEq, Nat.reduceBNe, Nat.reduceGT, Nat.reduceDiv, Nat.reduceMod, Int.reduceAdd, Int.reduceSub, Int.reduceNeg, Int.reduceLT, Int.reduceLE, Int.reduceEq, Int.reduceToNat, fA, l1, l1', q4, q5, q5', hmk]
          refine hB _ ⟨i + 1, by omega⟩ [some 618] (by simp only; omega) rfl ?_
          simp (maxSteps := 2000000) only [enA, ↓enP, Nat.reduceAdd, Nat.reduceMul, Nat.reduceSub, Nat.reduceLT, Nat.reduceLeDiff, Nat.reduceEqDiff, Nat.reduceBEq, ↓reduceIte, reduceCtorEq, fA, ei, hs, bestA, bestO, hmk, List.append_nil, List.cons_append, List.nil_append]

      · have q4 : ((popc i : Int) == ((l0.length + 1 : Nat) : Int)) = false := by rw [beq_eq_false_iff_ne]; simp at c4; omega
        cases hh : (lessB b i).lines.any hopeless with
        | true =>
          have hhs := isHopeless_spec (lessB b i) hless
          rw [hll, hh] at hhs
          simp (maxSteps := 2000000) only [vcA, ↓vcP, ↓reduceIte, reduceCtorEq, Nat.reduceAdd, Nat.reduceMul, Nat.reduceSub, Nat.reduceLT, Nat.reduceLeDiff, Nat.reduceEqDiff, Nat.reduceBEq, Nat.reduceBNe, Nat.reduceGT, Nat.reduceDiv, Nat.reduceMod, Int.reduceAdd, Int.reduceSub, Int.reduceNeg, Int.reduceLT, Int.reduceLE, Int.reduceEq, Int.reduceToNat, fA, l1, l1', q4]
          refine onF_call hhs [] [] [616, 617] ?_ ?_
          · simp (maxSteps := 2000000) only [okA, ↓okP, Nat.reduceAdd, Nat.reduceMul, Nat.reduceSub, Nat.reduceLT, Nat.reduceLeDiff, Nat.reduceEqDiff, Nat.reduceBEq, ↓reduceIte, reduceCtorEq, lessB]
          have hs : chgT b (wrongN b b.lines.length) (i + 1) = (m0 :: l0) := by
            show stepC b (wrongN b b.lines.length) (chgT b (wrongN b b.lines.length) i) i = _
            rw [hbest]
            unfold stepC
            rw [if_neg hC1, if_pos (.inr (.inl hh))]
          simp (maxSteps := 2000000) only [vcA, ↓vcP, ↓reduceIte, reduceCtorEq, Nat.reduceAdd, Nat.reduceMul, Nat.reduceSub, Nat.reduceLT, Nat.reduceLeDiff, Nat.reduceEqDiff, Nat.reduceBEq, Nat.reduceBNe, Nat.reduceGT, Nat.reduceDiv, Nat.reduceMod, Int.reduceAdd, Int.reduceSub, Int.reduceNeg, Int.reduceLT, Int.reduceLE, Int.reduceEq, Int.reduceToNat, fA, l1, l1', q4]
          refine hB _ ⟨i + 1, by omega⟩ [some 320] (by simp only; omega) rfl ?_
          simp (maxSteps := 2000000) only [enA, ↓enP, Nat.reduceAdd, Nat.reduceMul, Nat.reduceSub, Nat.reduceLT, Nat.reduceLeDiff, Nat.reduceEqDiff, Nat.reduceBEq, ↓reduceIte, reduceCtorEq, fA, ei, hs, bestA, bestO, List.append_nil, List.cons_append, List.nil_append]

        | false =>
        have hhs := isHopeless_spec (lessB b i) hless
        rw [hll, hh] at hhs
        simp (maxSteps := 2000000) only [vcA, ↓vcP, ↓reduceIte, reduceCtorEq, Nat.reduceAdd, Nat.reduceMul, Nat.reduceSub, Nat.reduceLT, Nat.reduceLeDiff, Nat.reduceEqDiff, Nat.reduceBEq, Nat.reduceBNe, Nat.reduceGT, Nat.reduceDiv, Nat.reduceMod, Int.reduceAdd, Int.reduceSub, Int.reduceNeg, Int.reduceLT, Int.reduceLE, Int.reduceEq, Int.reduceToNat, fA, l1, l1', q4]
        refine onF_call hhs [] [] [616, 617] ?_ ?_
        · simp (maxSteps := 2000000) only [okA, ↓okP, Nat.reduceAdd, Nat.reduceMul, Nat.reduceSub, Nat.reduceLT, Nat.reduceLeDiff, Nat.reduceEqDiff, Nat.reduceBEq, ↓reduceIte, reduceCtorEq, lessB]
        simp (maxSteps := 2000000) only [vcA, ↓vcP, ↓reduceIte, reduceCtorEq, Nat.reduceAdd, Nat.reduceMul, Nat.reduceSub, Nat.reduceLT, Nat.reduceLeDiff, Nat.reduceEqDiff, Nat.reduceBEq, Nat.reduceBNe, Nat.reduceGT, Nat.reduceDiv, Nat.reduceMod, Int.reduceAdd, Int.reduceSub, Int.reduceNeg, Int.reduceLT, Int.reduceLE, Int.reduceEq, Int.reduceToNat, fA]
        cases hps : isPos (lessB b i) with
        | false =>
          have hpo := possible_spec (lessB b i) (by rw [hll]; exact hlen)
          rw [hll, hps] at hpo
          refine onF_call hpo [] [] [616, 617] ?_ ?_
          · simp (maxSteps := 2000000) only [okA, ↓okP, Nat.reduceAdd, Nat.reduceMul, Nat.reduceSub, Nat.reduceLT, Nat.reduceLeDiff, Nat.reduceEqDiff, Nat.reduceBEq, ↓reduceIte, reduceCtorEq, lessB]
          have hs : chgT b (wrongN b b.lines.length) (i + 1) = (m0 :: l0) := by
            show stepC b (wrongN b b.lines.length) (chgT b (wrongN b b.lines.length) i) i = _
            rw [hbest]
            unfold stepC
            rw [if_neg hC1, if_pos (.inr (.inr hps))]
          simp (maxSteps := 2000000) only [vcA, ↓vcP, ↓reduceIte, reduceCtorEq, Nat.reduceAdd, Nat.reduceMul, Nat.reduceSub, Nat.reduceLT, Nat.reduceLeDiff, Nat.reduceEqDiff, Nat.reduceBEq, Nat.reduceBNe, Nat.reduceGT, Nat.reduceDiv, Nat.reduceMod, Int.reduceAdd, Int.reduceSub, Int.reduceNeg, Int.reduceLT, Int.reduceLE, Int.reduceEq, Int.reduceToNat, fA, l1, l1', q4]
          refine hB _ ⟨i + 1, by omega⟩ [some 320] (by simp only; omega) rfl ?_
          simp (maxSteps := 2000000) only [enA, ↓enP, Nat.reduceAdd, Nat.reduceMul, Nat.reduceSub, Nat.reduceLT, Nat.reduceLeDiff, Nat.reduceEqDiff, Nat.reduceBEq, ↓reduceIte, reduceCtorEq, fA, ei, hs, bestA, bestO, List.append_nil, List.cons_append, List.nil_append]

        | true =>
        have hpo := possible_spec (lessB b i) (by rw [hll]; exact hlen)
        rw [hll, hps] at hpo
        refine onF_call hpo [] [] [616, 617] ?_ ?_
        · simp (maxSteps := 2000000) only [okA, ↓okP, Nat.reduceAdd, Nat.reduceMul, Nat.reduceSub, Nat.reduceLT, Nat.reduceLeDiff, Nat.reduceEqDiff, Nat.reduceBEq, ↓reduceIte, reduceCtorEq, lessB]
        have hs : chgT b (wrongN b b.lines.length) (i + 1) = marksB b i := by
          show stepC b (wrongN b b.lines.length) (chgT b (wrongN b b.lines.length) i) i = _
          rw [hbest]
          unfold stepC
          rw [if_neg hC1, if_neg (fun h => h.elim (fun h => c4 h.2.1) fun h => h.elim (fun h => by rw [hh] at h; cases h) fun h => by rw [hps] at h; cases h)]
        have hmne : marksB b i ≠ [] := fun h => by
          have hz : popc i = 0 := by
            have := marksT_count (n := b.lines.length) hi2
            have h' : marksT b.lines.length i (b.lines.length * 3 + 1) = [] := h
            rw [h'] at this
            exact this.symm
          rw [lessB_zero hi2 hz] at hps
          rw [hnp] at hps
          cases hps
        obtain ⟨m1, l1x, hm1⟩ := List.exists_cons_of_ne_nil hmne
        have hmk : marksT b.lines.length i (b.lines.length * 3 + 1) = m1 :: l1x := hm1
        rw [hm1] at hs
        simp (maxSteps := 2000000) only [vcA, ↓vcP, ↓reduceIte, reduceCtorEq, Nat.reduceAdd, Nat.reduceMul, Nat.reduceSub, Nat.reduceLT, Nat.reduceLeDiff, Nat.reduceEqDiff, Nat.reduceBEq, Nat.reduceBNe, Nat.reduceGT, Nat.reduceDiv, Nat.reduceMod, Int.reduceAdd, Int.reduceSub, Int.reduceNeg, Int.reduceLT, Int.reduceLE, Int.reduceEq, Int.reduceToNat, fA, l1, l1', q4, hmk]
        refine hB _ ⟨i + 1, by omega⟩ [some 618] (by simp only; omega) rfl ?_
        simp (maxSteps := 2000000) only [enA, ↓enP, Nat.reduceAdd, Nat.reduceMul, Nat.reduceSub, Nat.reduceLT, Nat.reduceLeDiff, Nat.reduceEqDiff, Nat.reduceBEq, ↓reduceIte, reduceCtorEq, fA, ei, hs, bestA, bestO, hmk, List.append_nil, List.cons_append, List.nil_append]


  obtain rfl : i = 2 ^ (b.lines.length * 3 + 1) := by omega
  have p2 : (((2 ^ (b.lines.length * 3 + 1) : Nat) : Int) < ((2 ^ (b.lines.length * 3 + 1) : Nat) : Int)) = False := eq_false (by omega)
  have p2' : (2 ^ (b.lines.length * 3 + 1) < 2 ^ (b.lines.length * 3 + 1)) = False := eq_false (by omega)
  obtain ⟨best, hbest⟩ : ∃ best, chgT b (wrongN b b.lines.length) (2 ^ (b.lines.length * 3 + 1)) = best := ⟨_, rfl⟩
  rw [hbest] at e2 ⊢
  cases best with
  | nil =>
    simp (maxSteps := 2000000) only [vcA, ↓vcP, ↓reduceIte, reduceCtorEq, Nat.reduceAdd, Nat.reduceMul, Nat.reduceSub, Nat.reduceLT, Nat.reduceLeDiff, Nat.reduceEqDiff, Nat.reduceBEq, Nat.reduceBNe, Nat.reduceGT, Nat.reduceDiv, Nat.reduceMod, Int.reduceAdd, Int.reduceSub, Int.reduceNeg, Int.reduceLT, Int.reduceLE, Int.reduceEq, Int.reduceToNat, fA, p2, p2', bestA, bestO, List.append_nil]
    refine hR _ (fin_of1 [none] ?_)
    simp (maxSteps := 2000000) only [enA, ↓enP, Nat.reduceAdd, Nat.reduceMul, Nat.reduceSub, Nat.reduceLT, Nat.reduceLeDiff, Nat.reduceEqDiff, Nat.reduceBEq, ↓reduceIte, reduceCtorEq, fA, e1, e2]
  | cons m0 l0 =>
    simp (maxSteps := 2000000) only [vcA, ↓vcP, ↓reduceIte, reduceCtorEq, Nat.reduceAdd, Nat.reduceMul, Nat.reduceSub, Nat.reduceLT, Nat.reduceLeDiff, Nat.reduceEqDiff, Nat.reduceBEq, Nat.reduceBNe, Nat.reduceGT, Nat.reduceDiv, Nat.reduceMod, Int.reduceAdd, Int.reduceSub, Int.reduceNeg, Int.reduceLT, Int.reduceLE, Int.reduceEq, Int.reduceToNat, fA, p2, p2', bestA, bestO, List.cons_append, List.nil_append]
    refine hR _ (fin_of1 [some 320] ?_)
    simp (maxSteps := 2000000) only [enA, ↓enP, Nat.reduceAdd, Nat.reduceMul, Nat.reduceSub, Nat.reduceLT, Nat.reduceLeDiff, Nat.reduceEqDiff, Nat.reduceBEq, ↓reduceIte, reduceCtorEq, fA, e1, e2]
theorem change_spec (b : Bl) (hl : b.lines.length < 1000000) : SpecF Try.prog 22 [.agg [.sl 3 (b.lines.map lnR), .v (.int .i64 b.total)]] (.tup [.sl 2 ((chgR b).map mkR), .v (.int .i64 (chgErr b))]) [] := (change0_spec b hl).frz
end Go.Proofs.Ytpnmbpbcgifkeaa.Ab.T12
