/- What truly happened: the shop of the plain laws about outworkers. Small contracts of the plain laws about outworkers: bytes, scales, copies, looks. The shop of the plain laws about outworkers: what its bytes say. The shop of the plain laws about outworkers: what its book says is true. -/
import Derived.Test.YtninkfpeeemcoaaZLA
import Derived.Test.YtninkfpeeemcoaaZO3
namespace Go.Proofs.Ytninkfpeeemcoaa.Ab.T07
open Go Go.RowKit
set_option linter.unusedVariables false
set_option linter.unusedSimpArgs false
set_option maxRecDepth 100000
/-- What truly happened: given out, brought back, put into fans, lost; 2 * worker + stuff, in each. -/
abbrev Rl := Nat → Int
def rlA (r : Rl) : List AV := [.v (.int .i64 (r 0)), .v (.int .i64 (r 1)), .v (.int .i64 (r 2)), .v (.int .i64 (r 3)), .v (.int .i64 (r 4)), .v (.int .i64 (r 5)), .v (.int .i64 (r 6)), .v (.int .i64 (r 7)), .v (.int .i64 (r 8)), .v (.int .i64 (r 9)), .v (.int .i64 (r 10)), .v (.int .i64 (r 11)), .v (.int .i64 (r 12)), .v (.int .i64 (r 13)), .v (.int .i64 (r 14)), .v (.int .i64 (r 15)), .v (.int .i64 (r 16)), .v (.int .i64 (r 17)), .v (.int .i64 (r 18)), .v (.int .i64 (r 19)), .v (.int .i64 (r 20)), .v (.int .i64 (r 21)), .v (.int .i64 (r 22)), .v (.int .i64 (r 23))]
def leftI (r : Rl) (w s : Nat) : Int := r (2 * w + s) - r (6 + 2 * w + s) - r (12 + 2 * w + s) - r (18 + 2 * w + s)
def Rl.Bd (r : Rl) : Prop := ∀ i, 0 ≤ r i ∧ r i ≤ 10000000
set_option maxHeartbeats 4000000 in
theorem left0_spec (r : Rl) (w s : Nat) (hw : w < 3) (hs : s < 2) (hr : r.Bd) : SpecF Try.prog 13 [.agg (rlA r), .v (.int .i64 w), .v (.int .i64 s)] (.v (.int .i64 (leftI r w s))) [] := by
  have h1 := hr (2 * w + s)
  have h2 := hr (6 + 2 * w + s)
  have h3 := hr (12 + 2 * w + s)
  have h4 := hr (18 + 2 * w + s)
  have w1 : IntKind.i64.wrap (r (2 * w + s) - r (6 + 2 * w + s)) = r (2 * w + s) - r (6 + 2 * w + s) := wrap_id (by omega) (by omega)
  have w2 : IntKind.i64.wrap (r (2 * w + s) - r (6 + 2 * w + s) - r (12 + 2 * w + s)) = r (2 * w + s) - r (6 + 2 * w + s) - r (12 + 2 * w + s) := wrap_id (by omega) (by omega)
  have w3 : IntKind.i64.wrap (r (2 * w + s) - r (6 + 2 * w + s) - r (12 + 2 * w + s) - r (18 + 2 * w + s)) = leftI r w s := wrap_id (by omega) (by omega)
  obtain rfl | rfl | rfl : w = 0 ∨ w = 1 ∨ w = 2 := by omega
  all_goals obtain rfl | rfl : s = 0 ∨ s = 1 := by omega
  all_goals
    unfold rlA
    simp only [Nat.reduceMul, Nat.reduceAdd] at w1 w2 w3
    refine spec_go (N := 34) (rs := [.tmp 6]) (eq := eqs) rfl rfl fun_13 rfl (by kernel_rfl) (by kernel_rfl) (by simp) (by simp) (by simp) (by simp) fun R hR => ?_
    simp (maxSteps := 2000000) only [vcA, ↓vcP, ↓reduceIte, reduceCtorEq, Nat.reduceAdd, Nat.reduceMul, Nat.reduceSub, Nat.reduceLT, Nat.reduceLeDiff, Nat.reduceEqDiff, Nat.reduceBEq, Nat.reduceBNe, Nat.reduceGT, Nat.reduceDiv, Nat.reduceMod, Int.reduceAdd, Int.reduceSub, Int.reduceNeg, Int.reduceLT, Int.reduceLE, Int.reduceEq, Int.reduceToNat, fA, w1, w2, w3]
    repeat (first | refine ⟨by kernel_rfl, ?_⟩ | refine ⟨⟨by kernel_rfl, by kernel_rfl⟩, ?_⟩ | refine ⟨⟨by kernel_rfl, by kernel_rfl, by kernel_rfl⟩, ?_⟩ | refine ⟨⟨by kernel_rfl, by kernel_rfl, by kernel_rfl, by kernel_rfl⟩, ?_⟩ | refine ⟨⟨by kernel_rfl, by kernel_rfl, by kernel_rfl, by kernel_rfl, by kernel_rfl⟩, ?_⟩ | refine ⟨⟨by kernel_rfl, by kernel_rfl, by kernel_rfl, by kernel_rfl, by kernel_rfl, by kernel_rfl⟩, ?_⟩ | refine ⟨⟨by kernel_rfl, by kernel_rfl, by kernel_rfl, by kernel_rfl, by kernel_rfl, by kernel_rfl, by kernel_rfl⟩, ?_⟩ | refine ⟨⟨by kernel_rfl, by kernel_rfl, by kernel_rfl, by kernel_rfl, by kernel_rfl, by kernel_rfl, by kernel_rfl, by kernel_rfl⟩, ?_⟩ | refine ⟨⟨by kernel_rfl, by kernel_rfl, by kernel_rfl, by kernel_rfl, by kernel_rfl, by kernel_rfl, by kernel_rfl, by kernel_rfl, by kernel_rfl⟩, ?_⟩ | refine ⟨⟨by kernel_rfl, by kernel_rfl, by kernel_rfl, by kernel_rfl, by kernel_rfl, by kernel_rfl, by kernel_rfl, by kernel_rfl, by kernel_rfl, by kernel_rfl⟩, ?_⟩ | refine ⟨⟨by kernel_rfl, by kernel_rfl, by kernel_rfl, by kernel_rfl, by kernel_rfl, by kernel_rfl, by kernel_rfl, by kernel_rfl, by kernel_rfl, by kernel_rfl, by kernel_rfl⟩, ?_⟩ | refine ⟨⟨by kernel_rfl, by kernel_rfl, by kernel_rfl, by kernel_rfl, by kernel_rfl, by kernel_rfl, by kernel_rfl, by kernel_rfl, by kernel_rfl, by kernel_rfl, by kernel_rfl, by kernel_rfl⟩, ?_⟩ | refine ⟨⟨by kernel_rfl, by kernel_rfl, by kernel_rfl, by kernel_rfl, by kernel_rfl, by kernel_rfl, by kernel_rfl, by kernel_rfl, by kernel_rfl, by kernel_rfl, by kernel_rfl, by kernel_rfl, by kernel_rfl⟩, ?_⟩)
    refine hR _ (fin_of0 ?_)
    simp (maxSteps := 2000000) only [enA, ↓enP, Nat.reduceAdd, Nat.reduceMul, Nat.reduceSub, Nat.reduceLT, Nat.reduceLeDiff, Nat.reduceEqDiff, Nat.reduceBEq, ↓reduceIte, reduceCtorEq, fA]
end Go.Proofs.Ytninkfpeeemcoaa.Ab.T07
namespace Go.Proofs.Ytninkfpeeemcoaa.Ab.T07
open Go Go.RowKit
set_option linter.unusedVariables false
set_option linter.unusedSimpArgs false
set_option maxRecDepth 100000
def u8R (n : Int) : List DV := [.v (.int .u8 n)]
def By (n : Int) : Prop := 0 ≤ n ∧ n < 256
def byteI (l : List Int) (i : Int) : Int := if l.length = 0 then 0 else nth l (i.toNat % l.length)
theorem byteI_bd {l : List Int} (hl : ∀ x ∈ l, By x) (i : Int) : 0 ≤ byteI l i ∧ byteI l i < 256 := by
  unfold byteI
  split
  · omega
  · exact hl _ (nth_mem (Nat.mod_lt _ (by omega)))
theorem byteOf_spec (l : List Int) (i : Nat) (hl : ∀ x ∈ l, By x) (hi : i < 1000000) : SpecF Try.prog 28 [.sl 1 (l.map u8R), .v (.int .i64 i)] (.v (.int .i64 (byteI l i))) [] := by
  refine spec_go (N := 16) (rs := [.tmp 4]) (eq := eqs) rfl rfl fun_28 rfl (by kernel_rfl) (by kernel_rfl) (by simp) (by simp) (by simp) (by simp) fun R hR => ?_
  by_cases h : l.length = 0
  · have q0 : ((l.length : Int) == 0) = true := by simp [h]
    have e : byteI l i = 0 := by unfold byteI; rw [if_pos h]
    simp (maxSteps := 2000000) only [vcA, ↓vcP, ↓reduceIte, reduceCtorEq, Nat.reduceAdd, Nat.reduceMul, Nat.reduceSub, Nat.reduceLT, Nat.reduceLeDiff, Nat.reduceEqDiff, Nat.reduceBEq, Nat.reduceBNe, Nat.reduceGT, Nat.reduceDiv, Nat.reduceMod, Int.reduceAdd, Int.reduceSub, Int.reduceNeg, Int.reduceLT, Int.reduceLE, Int.reduceEq, Int.reduceToNat, fA, q0]
    refine hR _ (fin_of0 ?_)
    rw [e]
    simp (maxSteps := 2000000) only [enA, ↓enP, Nat.reduceAdd, Nat.reduceMul, Nat.reduceSub, Nat.reduceLT, Nat.reduceLeDiff, Nat.reduceEqDiff, Nat.reduceBEq, ↓reduceIte, reduceCtorEq, fA]
  have q0 : ((l.length : Int) == 0) = false := by simp [h]
  have hlt := Nat.mod_lt i (show 0 < l.length by omega)
  have e : byteI l i = nth l (i % l.length) := by unfold byteI; rw [if_neg h, Int.toNat_natCast]
  have e1 : ((i : Int)).tmod (l.length : Int) = ((i % l.length : Nat) : Int) := by rw [Int.tmod_eq_emod_of_nonneg (by omega)]; omega
  have hb := hl _ (nth_mem hlt)
  have hb : 0 ≤ nth l (i % l.length) ∧ nth l (i % l.length) < 256 := hb
  have e2 : IntKind.i64.wrap (nth l (i % l.length)) = nth l (i % l.length) := wrap_id (by omega) (by omega)
  have p1 : (¬ (l.length : Int) = 0) = True := eq_true (by omega)
  have p2 : (i % l.length < l.length) = True := eq_true hlt
  generalize i % l.length = j at *
  simp (maxSteps := 2000000) only [vcA, ↓vcP, ↓reduceIte, reduceCtorEq, Nat.reduceAdd, Nat.reduceMul, Nat.reduceSub, Nat.reduceLT, Nat.reduceLeDiff, Nat.reduceEqDiff, Nat.reduceBEq, Nat.reduceBNe, Nat.reduceGT, Nat.reduceDiv, Nat.reduceMod, Int.reduceAdd, Int.reduceSub, Int.reduceNeg, Int.reduceLT, Int.reduceLE, Int.reduceEq, Int.reduceToNat, fA, q0, e1, p1, p2, u8R, e2]
  repeat (first | refine ⟨by kernel_rfl, ?_⟩ | refine ⟨⟨by kernel_rfl, by kernel_rfl⟩, ?_⟩ | refine ⟨⟨by kernel_rfl, by kernel_rfl, by kernel_rfl⟩, ?_⟩ | refine ⟨⟨by kernel_rfl, by kernel_rfl, by kernel_rfl, by kernel_rfl⟩, ?_⟩ | refine ⟨⟨by kernel_rfl, by kernel_rfl, by kernel_rfl, by kernel_rfl, by kernel_rfl⟩, ?_⟩ | refine ⟨⟨by kernel_rfl, by kernel_rfl, by kernel_rfl, by kernel_rfl, by kernel_rfl, by kernel_rfl⟩, ?_⟩ | refine ⟨⟨by kernel_rfl, by kernel_rfl, by kernel_rfl, by kernel_rfl, by kernel_rfl, by kernel_rfl, by kernel_rfl⟩, ?_⟩ | refine ⟨⟨by kernel_rfl, by kernel_rfl, by kernel_rfl, by kernel_rfl, by kernel_rfl, by kernel_rfl, by kernel_rfl, by kernel_rfl⟩, ?_⟩ | refine ⟨⟨by kernel_rfl, by kernel_rfl, by kernel_rfl, by kernel_rfl, by kernel_rfl, by kernel_rfl, by kernel_rfl, by kernel_rfl, by kernel_rfl⟩, ?_⟩ | refine ⟨⟨by kernel_rfl, by kernel_rfl, by kernel_rfl, by kernel_rfl, by kernel_rfl, by kernel_rfl, by kernel_rfl, by kernel_rfl, by kernel_rfl, by kernel_rfl⟩, ?_⟩ | refine ⟨⟨by kernel_rfl, by kernel_rfl, by kernel_rfl, by kernel_rfl, by kernel_rfl, by kernel_rfl, by kernel_rfl, by kernel_rfl, by kernel_rfl, by kernel_rfl, by kernel_rfl⟩, ?_⟩ | refine ⟨⟨by kernel_rfl, by kernel_rfl, by kernel_rfl, by kernel_rfl, by kernel_rfl, by kernel_rfl, by kernel_rfl, by kernel_rfl, by kernel_rfl, by kernel_rfl, by kernel_rfl, by kernel_rfl⟩, ?_⟩ | refine ⟨⟨by kernel_rfl, by kernel_rfl, by kernel_rfl, by kernel_rfl, by kernel_rfl, by kernel_rfl, by kernel_rfl, by kernel_rfl, by kernel_rfl, by kernel_rfl, by kernel_rfl, by kernel_rfl, by kernel_rfl⟩, ?_⟩)
  refine hR _ (fin_of0 ?_)
  rw [e]
  simp (maxSteps := 2000000) only [enA, ↓enP, Nat.reduceAdd, Nat.reduceMul, Nat.reduceSub, Nat.reduceLT, Nat.reduceLeDiff, Nat.reduceEqDiff, Nat.reduceBEq, ↓reduceIte, reduceCtorEq, fA]
/-- What the scales showed. -/
def showI (h : Hs) (n : Int) (l : List Int) (i : Nat) : Int := max 0 (n + byteI l i % (2 * h.sc + 1) - h.sc)
theorem showI_bd {h : Hs} (hs : 0 ≤ h.sc) (n : Int) (l : List Int) (i : Nat) : 0 ≤ showI h n l i ∧ n - h.sc ≤ showI h n l i ∧ (0 ≤ n → showI h n l i ≤ n + h.sc) := by
  unfold showI
  have h1 := Int.emod_nonneg (byteI l i) (b := 2 * h.sc + 1) (by omega)
  have h2 := Int.emod_lt_of_pos (byteI l i) (b := 2 * h.sc + 1) (by omega)
  omega
theorem shown_spec (h : Hs) (n : Int) (l : List Int) (i : Nat) (hs : 0 ≤ h.sc ∧ h.sc ≤ 100) (hn : 0 ≤ n ∧ n ≤ 1000000) (hl : ∀ x ∈ l, By x) (hi : i < 1000000) : SpecF Try.prog 27 [.agg [.v (.int .i64 h.sc), .sl 2 (h.tk.map spR), .sl 1 (h.lo.map iR)], .v (.int .i64 n), .sl 1 (l.map u8R), .v (.int .i64 i)] (.v (.int .i64 (showI h n l i))) [] := by
  have hb := byteI_bd hl i
  have g1 := Int.emod_nonneg (byteI l i) (b := 2 * h.sc + 1) (by omega)
  have g2 := Int.emod_lt_of_pos (byteI l i) (b := 2 * h.sc + 1) (by omega)
  have e0 : IntKind.i64.wrap (2 * h.sc) = 2 * h.sc := wrap_id (by omega) (by omega)
  have e1 : IntKind.i64.wrap (2 * h.sc + 1) = 2 * h.sc + 1 := wrap_id (by omega) (by omega)
  have e2 : (byteI l i).tmod (2 * h.sc + 1) = byteI l i % (2 * h.sc + 1) := Int.tmod_eq_emod_of_nonneg hb.1
  have e3 : showI h n l i = max 0 (n + byteI l i % (2 * h.sc + 1) - h.sc) := rfl
  have p1 : (¬ 2 * h.sc + 1 = 0) = True := eq_true (by omega)
  have hby := byteOf_spec l i hl hi
  generalize byteI l i = x at *
  generalize x % (2 * h.sc + 1) = y at *
  have e4 : IntKind.i64.wrap y = y := wrap_id (by omega) (by omega)
  have e5 : IntKind.i64.wrap (n + y) = n + y := wrap_id (by omega) (by omega)
  have e6 : IntKind.i64.wrap (n + y - h.sc) = n + y - h.sc := wrap_id (by omega) (by omega)
  refine spec_go (N := 23) (rs := [.tmp 8]) (eq := eqs) rfl rfl fun_27 rfl (by kernel_rfl) (by kernel_rfl) (by simp) (by simp) (by simp) (by simp) fun R hR => ?_
  simp (maxSteps := 2000000) only [vcA, ↓vcP, ↓reduceIte, reduceCtorEq, Nat.reduceAdd, Nat.reduceMul, Nat.reduceSub, Nat.reduceLT, Nat.reduceLeDiff, Nat.reduceEqDiff, Nat.reduceBEq, Nat.reduceBNe, Nat.reduceGT, Nat.reduceDiv, Nat.reduceMod, Int.reduceAdd, Int.reduceSub, Int.reduceNeg, Int.reduceLT, Int.reduceLE, Int.reduceEq, Int.reduceToNat, fA]
  refine onF_data hby ?_ ?_
  · simp (maxSteps := 2000000) only [okA, ↓okP, Nat.reduceAdd, Nat.reduceMul, Nat.reduceSub, Nat.reduceLT, Nat.reduceLeDiff, Nat.reduceEqDiff, Nat.reduceBEq, ↓reduceIte, reduceCtorEq]
  simp (maxSteps := 2000000) only [vcA, ↓vcP, ↓reduceIte, reduceCtorEq, Nat.reduceAdd, Nat.reduceMul, Nat.reduceSub, Nat.reduceLT, Nat.reduceLeDiff, Nat.reduceEqDiff, Nat.reduceBEq, Nat.reduceBNe, Nat.reduceGT, Nat.reduceDiv, Nat.reduceMod, Int.reduceAdd, Int.reduceSub, Int.reduceNeg, Int.reduceLT, Int.reduceLE, Int.reduceEq, Int.reduceToNat, fA, e0, e1, e2, e4, e5, e6, p1]
  repeat (first | refine ⟨by kernel_rfl, ?_⟩ | refine ⟨⟨by kernel_rfl, by kernel_rfl⟩, ?_⟩ | refine ⟨⟨by kernel_rfl, by kernel_rfl, by kernel_rfl⟩, ?_⟩ | refine ⟨⟨by kernel_rfl, by kernel_rfl, by kernel_rfl, by kernel_rfl⟩, ?_⟩ | refine ⟨⟨by kernel_rfl, by kernel_rfl, by kernel_rfl, by kernel_rfl, by kernel_rfl⟩, ?_⟩ | refine ⟨⟨by kernel_rfl, by kernel_rfl, by kernel_rfl, by kernel_rfl, by kernel_rfl, by kernel_rfl⟩, ?_⟩ | refine ⟨⟨by kernel_rfl, by kernel_rfl, by kernel_rfl, by kernel_rfl, by kernel_rfl, by kernel_rfl, by kernel_rfl⟩, ?_⟩ | refine ⟨⟨by kernel_rfl, by kernel_rfl, by kernel_rfl, by kernel_rfl, by kernel_rfl, by kernel_rfl, by kernel_rfl, by kernel_rfl⟩, ?_⟩ | refine ⟨⟨by kernel_rfl, by kernel_rfl, by kernel_rfl, by kernel_rfl, by kernel_rfl, by kernel_rfl, by kernel_rfl, by kernel_rfl, by kernel_rfl⟩, ?_⟩ | refine ⟨⟨by kernel_rfl, by kernel_rfl, by kernel_rfl, by kernel_rfl, by kernel_rfl, by kernel_rfl, by kernel_rfl, by kernel_rfl, by kernel_rfl, by kernel_rfl⟩, ?_⟩ | refine ⟨⟨by kernel_rfl, by kernel_rfl, by kernel_rfl, by kernel_rfl, by kernel_rfl, by kernel_rfl, by kernel_rfl, by kernel_rfl, by kernel_rfl, by kernel_rfl, by kernel_rfl⟩, ?_⟩ | refine ⟨⟨by kernel_rfl, by kernel_rfl, by kernel_rfl, by kernel_rfl, by kernel_rfl, by kernel_rfl, by kernel_rfl, by kernel_rfl, by kernel_rfl, by kernel_rfl, by kernel_rfl, by kernel_rfl⟩, ?_⟩ | refine ⟨⟨by kernel_rfl, by kernel_rfl, by kernel_rfl, by kernel_rfl, by kernel_rfl, by kernel_rfl, by kernel_rfl, by kernel_rfl, by kernel_rfl, by kernel_rfl, by kernel_rfl, by kernel_rfl, by kernel_rfl⟩, ?_⟩)
  refine hR _ (fin_of0 ?_)
  rw [e3]
  simp (maxSteps := 2000000) only [enA, ↓enP, Nat.reduceAdd, Nat.reduceMul, Nat.reduceSub, Nat.reduceLT, Nat.reduceLeDiff, Nat.reduceEqDiff, Nat.reduceBEq, ↓reduceIte, reduceCtorEq, fA]
theorem copied_spec (h : Hs) (h1 : h.tk.length < 1000) (h2 : h.lo.length < 1000) : SpecF Try.prog 10 [.agg [.v (.int .i64 h.sc), .sl 2 (h.tk.map spR), .sl 1 (h.lo.map iR)]] (.agg [.v (.int .i64 h.sc), .sl 2 (h.tk.map spR), .sl 1 (h.lo.map iR)]) [] := by
  refine SpecG.frz (r := .agg [.v (.int .i64 h.sc), .ob 0 h.tk.length, .ob 1 h.lo.length]) (objs := [.row 47 2 (h.tk.map spR) false, .row 3 1 (h.lo.map iR) false]) ?_
  refine spec_go (N := 14) (rs := [.cell 2 30]) (eq := eqs) rfl rfl fun_10 rfl (by kernel_rfl) (by kernel_rfl) (by simp) (by simp) (by simp) (by simp) fun R hR => ?_
  simp (maxSteps := 2000000) only [vcA, ↓vcP, ↓reduceIte, reduceCtorEq, Nat.reduceAdd, Nat.reduceMul, Nat.reduceSub, Nat.reduceLT, Nat.reduceLeDiff, Nat.reduceEqDiff, Nat.reduceBEq, Nat.reduceBNe, Nat.reduceGT, Nat.reduceDiv, Nat.reduceMod, Int.reduceAdd, Int.reduceSub, Int.reduceNeg, Int.reduceLT, Int.reduceLE, Int.reduceEq, Int.reduceToNat, fA]
  refine ⟨⟨by omega, by simp only [maxLen]; omega⟩, fun _ => ?_⟩
  repeat (first | refine ⟨by kernel_rfl, ?_⟩ | refine ⟨⟨by kernel_rfl, by kernel_rfl⟩, ?_⟩ | refine ⟨⟨by kernel_rfl, by kernel_rfl, by kernel_rfl⟩, ?_⟩ | refine ⟨⟨by kernel_rfl, by kernel_rfl, by kernel_rfl, by kernel_rfl⟩, ?_⟩ | refine ⟨⟨by kernel_rfl, by kernel_rfl, by kernel_rfl, by kernel_rfl, by kernel_rfl⟩, ?_⟩ | refine ⟨⟨by kernel_rfl, by kernel_rfl, by kernel_rfl, by kernel_rfl, by kernel_rfl, by kernel_rfl⟩, ?_⟩ | refine ⟨⟨by kernel_rfl, by kernel_rfl, by kernel_rfl, by kernel_rfl, by kernel_rfl, by kernel_rfl, by kernel_rfl⟩, ?_⟩ | refine ⟨⟨by kernel_rfl, by kernel_rfl, by kernel_rfl, by kernel_rfl, by kernel_rfl, by kernel_rfl, by kernel_rfl, by kernel_rfl⟩, ?_⟩ | refine ⟨⟨by kernel_rfl, by kernel_rfl, by kernel_rfl, by kernel_rfl, by kernel_rfl, by kernel_rfl, by kernel_rfl, by kernel_rfl, by kernel_rfl⟩, ?_⟩ | refine ⟨⟨by kernel_rfl, by kernel_rfl, by kernel_rfl, by kernel_rfl, by kernel_rfl, by kernel_rfl, by kernel_rfl, by kernel_rfl, by kernel_rfl, by kernel_rfl⟩, ?_⟩ | refine ⟨⟨by kernel_rfl, by kernel_rfl, by kernel_rfl, by kernel_rfl, by kernel_rfl, by kernel_rfl, by kernel_rfl, by kernel_rfl, by kernel_rfl, by kernel_rfl, by kernel_rfl⟩, ?_⟩ | refine ⟨⟨by kernel_rfl, by kernel_rfl, by kernel_rfl, by kernel_rfl, by kernel_rfl, by kernel_rfl, by kernel_rfl, by kernel_rfl, by kernel_rfl, by kernel_rfl, by kernel_rfl, by kernel_rfl⟩, ?_⟩ | refine ⟨⟨by kernel_rfl, by kernel_rfl, by kernel_rfl, by kernel_rfl, by kernel_rfl, by kernel_rfl, by kernel_rfl, by kernel_rfl, by kernel_rfl, by kernel_rfl, by kernel_rfl, by kernel_rfl, by kernel_rfl⟩, ?_⟩)
  refine ⟨⟨by omega, by simp only [maxLen]; omega⟩, fun _ => ?_⟩
  repeat (first | refine ⟨by kernel_rfl, ?_⟩ | refine ⟨⟨by kernel_rfl, by kernel_rfl⟩, ?_⟩ | refine ⟨⟨by kernel_rfl, by kernel_rfl, by kernel_rfl⟩, ?_⟩ | refine ⟨⟨by kernel_rfl, by kernel_rfl, by kernel_rfl, by kernel_rfl⟩, ?_⟩ | refine ⟨⟨by kernel_rfl, by kernel_rfl, by kernel_rfl, by kernel_rfl, by kernel_rfl⟩, ?_⟩ | refine ⟨⟨by kernel_rfl, by kernel_rfl, by kernel_rfl, by kernel_rfl, by kernel_rfl, by kernel_rfl⟩, ?_⟩ | refine ⟨⟨by kernel_rfl, by kernel_rfl, by kernel_rfl, by kernel_rfl, by kernel_rfl, by kernel_rfl, by kernel_rfl⟩, ?_⟩ | refine ⟨⟨by kernel_rfl, by kernel_rfl, by kernel_rfl, by kernel_rfl, by kernel_rfl, by kernel_rfl, by kernel_rfl, by kernel_rfl⟩, ?_⟩ | refine ⟨⟨by kernel_rfl, by kernel_rfl, by kernel_rfl, by kernel_rfl, by kernel_rfl, by kernel_rfl, by kernel_rfl, by kernel_rfl, by kernel_rfl⟩, ?_⟩ | refine ⟨⟨by kernel_rfl, by kernel_rfl, by kernel_rfl, by kernel_rfl, by kernel_rfl, by kernel_rfl, by kernel_rfl, by kernel_rfl, by kernel_rfl, by kernel_rfl⟩, ?_⟩ | refine ⟨⟨by kernel_rfl, by kernel_rfl, by kernel_rfl, by kernel_rfl, by kernel_rfl, by kernel_rfl, by kernel_rfl, by kernel_rfl, by kernel_rfl, by kernel_rfl, by kernel_rfl⟩, ?_⟩ | refine ⟨⟨by kernel_rfl, by kernel_rfl, by kernel_rfl, by kernel_rfl, by kernel_rfl, by kernel_rfl, by kernel_rfl, by kernel_rfl, by kernel_rfl, by kernel_rfl, by kernel_rfl, by kernel_rfl⟩, ?_⟩ | refine ⟨⟨by kernel_rfl, by kernel_rfl, by kernel_rfl, by kernel_rfl, by kernel_rfl, by kernel_rfl, by kernel_rfl, by kernel_rfl, by kernel_rfl, by kernel_rfl, by kernel_rfl, by kernel_rfl, by kernel_rfl⟩, ?_⟩)
  refine hR _ (fin_of1 [some 64, some 96] ?_)
  simp (maxSteps := 2000000) only [enA, ↓enP, Nat.reduceAdd, Nat.reduceMul, Nat.reduceSub, Nat.reduceLT, Nat.reduceLeDiff, Nat.reduceEqDiff, Nat.reduceBEq, ↓reduceIte, reduceCtorEq, fA]
theorem lines1_spec (b : List En) (hb : b.length < 1000) : SpecF Try.prog 11 [.sl 4 (b.map enR)] (.ob 0 b.length) [.row 60 4 (b.map enR) false] := by
  refine spec_go (N := 6) (rs := [.tmp 2]) (eq := eqs) rfl rfl fun_11 rfl (by kernel_rfl) (by kernel_rfl) (by simp) (by simp) (by simp) (by simp) fun R hR => ?_
  simp (maxSteps := 2000000) only [vcA, ↓vcP, ↓reduceIte, reduceCtorEq, Nat.reduceAdd, Nat.reduceMul, Nat.reduceSub, Nat.reduceLT, Nat.reduceLeDiff, Nat.reduceEqDiff, Nat.reduceBEq, Nat.reduceBNe, Nat.reduceGT, Nat.reduceDiv, Nat.reduceMod, Int.reduceAdd, Int.reduceSub, Int.reduceNeg, Int.reduceLT, Int.reduceLE, Int.reduceEq, Int.reduceToNat, fA]
  refine ⟨⟨by omega, by simp only [maxLen]; omega⟩, fun _ => ?_⟩
  refine hR _ (fin_of1 [some 32] ?_)
  simp (maxSteps := 2000000) only [enA, ↓enP, Nat.reduceAdd, Nat.reduceMul, Nat.reduceSub, Nat.reduceLT, Nat.reduceLeDiff, Nat.reduceEqDiff, Nat.reduceBEq, ↓reduceIte, reduceCtorEq, fA]
theorem lines_spec (b : List En) (hb : b.length < 1000) : SpecF Try.prog 11 [.sl 4 (b.map enR)] (.sl 4 (b.map enR)) [] := (lines1_spec b hb).frz
def inS (n : Int) (s : Sp) : Bool := decide (n ≥ s.1) && decide (n ≤ s.2)
theorem inS_spec (n : Int) (s : Sp) : SpecF Try.prog 12 [.v (.int .i64 n), .agg [.v (.int .i64 s.1), .v (.int .i64 s.2)]] (.v (.bool (inS n s))) [] := by
  refine spec_go (N := 15) (rs := [.tmp 4]) (eq := eqs) rfl rfl fun_12 rfl (by kernel_rfl) (by kernel_rfl) (by simp) (by simp) (by simp) (by simp) fun R hR => ?_
  simp (maxSteps := 2000000) only [vcA, ↓vcP, ↓reduceIte, reduceCtorEq, Nat.reduceAdd, Nat.reduceMul, Nat.reduceSub, Nat.reduceLT, Nat.reduceLeDiff, Nat.reduceEqDiff, Nat.reduceBEq, Nat.reduceBNe, Nat.reduceGT, Nat.reduceDiv, Nat.reduceMod, Int.reduceAdd, Int.reduceSub, Int.reduceNeg, Int.reduceLT, Int.reduceLE, Int.reduceEq, Int.reduceToNat, fA]
  refine ⟨fun g => hR _ (fin_of0 ?_), fun g => hR _ (fin_of0 ?_)⟩
  · simp (maxSteps := 2000000) only [enA, ↓enP, Nat.reduceAdd, Nat.reduceMul, Nat.reduceSub, Nat.reduceLT, Nat.reduceLeDiff, Nat.reduceEqDiff, Nat.reduceBEq, ↓reduceIte, reduceCtorEq, fA]
    simp [inS]; omega
  · simp (maxSteps := 2000000) only [enA, ↓enP, Nat.reduceAdd, Nat.reduceMul, Nat.reduceSub, Nat.reduceLT, Nat.reduceLeDiff, Nat.reduceEqDiff, Nat.reduceBEq, ↓reduceIte, reduceCtorEq, fA]
    simp [inS]; omega
theorem hasN_spec (l : List Int) (n : Int) (hl : l.length < 1000000) : SpecF Try.prog 15 [.sl 1 (l.map iR), .v (.int .i64 n)] (.v (.bool (l.contains n))) [] := by
  refine spec_go (N := 18) (rs := [.tmp 4]) (eq := eqs) rfl rfl fun_15 rfl (by kernel_rfl) (by kernel_rfl) (by simp) (by simp) (by simp) (by simp) fun R hR => ?_
  simp (maxSteps := 2000000) only [vcA, ↓vcP, ↓reduceIte, reduceCtorEq, Nat.reduceAdd, Nat.reduceMul, Nat.reduceSub, Nat.reduceLT, Nat.reduceLeDiff, Nat.reduceEqDiff, Nat.reduceBEq, Nat.reduceBNe, Nat.reduceGT, Nat.reduceDiv, Nat.reduceMod, Int.reduceAdd, Int.reduceSub, Int.reduceNeg, Int.reduceLT, Int.reduceLE, Int.reduceEq, Int.reduceToNat, fA]
  refine goC_loop (α := {i : Nat // i ≤ l.length ∧ ∀ j, j < i → nth l j ≠ n}) (fun y => ⟨[(0, .sl 1 (l.map iR)), (1, .v (.int .i64 n)), (5, .v (.int .i64 y.1))], []⟩) (fun y => l.length - y.1) ⟨0, by omega, by omega⟩ [] ?_ ?_
  · simp (maxSteps := 2000000) only [enA, ↓enP, Nat.reduceAdd, Nat.reduceMul, Nat.reduceSub, Nat.reduceLT, Nat.reduceLeDiff, Nat.reduceEqDiff, Nat.reduceBEq, ↓reduceIte, reduceCtorEq, fA]
    try rfl
  intro y B hB
  obtain ⟨i, hi, hx⟩ := y
  by_cases c1 : i < l.length
  · have p1 : (i < l.length) = True := eq_true c1
    have e0 : IntKind.i64.wrap ((i : Int) + 1) = ((i + 1 : Nat) : Int) := wrap_id (by omega) (by omega)
    by_cases c2 : nth l i = n
    · have p2 : (nth l i == n) = true := by simpa using c2
      have e : l.contains n = true := by rw [List.contains_iff_mem, ← c2]; exact nth_mem c1
      simp (maxSteps := 2000000) only [vcA, ↓vcP, ↓reduceIte, reduceCtorEq, Nat.reduceAdd, Nat.reduceMul, Nat.reduceSub, Nat.reduceLT, Nat.reduceLeDiff, Nat.reduceEqDiff, Nat.reduceBEq, Nat.reduceBNe, Nat.reduceGT, Nat.reduceDiv, Nat.reduceMod, Int.reduceAdd, Int.reduceSub, Int.reduceNeg, Int.reduceLT, Int.reduceLE, Int.reduceEq, Int.reduceToNat, fA, p1, p2, iR]
      refine hR _ (fin_of0 ?_)
      rw [e]
      simp (maxSteps := 2000000) only [enA, ↓enP, Nat.reduceAdd, Nat.reduceMul, Nat.reduceSub, Nat.reduceLT, Nat.reduceLeDiff, Nat.reduceEqDiff, Nat.reduceBEq, ↓reduceIte, reduceCtorEq, fA]
    · have p2 : (nth l i == n) = false := by simpa using c2
      simp (maxSteps := 2000000) only [vcA, ↓vcP, ↓reduceIte, reduceCtorEq, Nat.reduceAdd, Nat.reduceMul, Nat.reduceSub, Nat.reduceLT, Nat.reduceLeDiff, Nat.reduceEqDiff, Nat.reduceBEq, Nat.reduceBNe, Nat.reduceGT, Nat.reduceDiv, Nat.reduceMod, Int.reduceAdd, Int.reduceSub, Int.reduceNeg, Int.reduceLT, Int.reduceLE, Int.reduceEq, Int.reduceToNat, fA, p1, p2, iR, e0]
      refine hB _ ⟨i + 1, by omega, fun j hj => ?_⟩ [] (by simp only; omega) rfl ?_
      · by_cases e : j = i
        · rw [e]; exact c2
        · exact hx j (by omega)
      · simp (maxSteps := 2000000) only [enA, ↓enP, Nat.reduceAdd, Nat.reduceMul, Nat.reduceSub, Nat.reduceLT, Nat.reduceLeDiff, Nat.reduceEqDiff, Nat.reduceBEq, ↓reduceIte, reduceCtorEq, fA]
  · have p1 : (i < l.length) = False := eq_false c1
    have e : l.contains n = false := by
      rw [Bool.eq_false_iff]
      intro h
      obtain ⟨j, hj, hd⟩ := List.mem_iff_getElem.1 (List.contains_iff_mem.1 h)
      have h8 := nth_eq hj
      rw [List.getElem?_eq_getElem hj] at h8
      exact hx j (by omega) ((Option.some.inj h8).symm.trans hd)
    simp (maxSteps := 2000000) only [vcA, ↓vcP, ↓reduceIte, reduceCtorEq, Nat.reduceAdd, Nat.reduceMul, Nat.reduceSub, Nat.reduceLT, Nat.reduceLeDiff, Nat.reduceEqDiff, Nat.reduceBEq, Nat.reduceBNe, Nat.reduceGT, Nat.reduceDiv, Nat.reduceMod, Int.reduceAdd, Int.reduceSub, Int.reduceNeg, Int.reduceLT, Int.reduceLE, Int.reduceEq, Int.reduceToNat, fA, p1]
    refine hR _ (fin_of0 ?_)
    rw [e]
    simp (maxSteps := 2000000) only [enA, ↓enP, Nat.reduceAdd, Nat.reduceMul, Nat.reduceSub, Nat.reduceLT, Nat.reduceLeDiff, Nat.reduceEqDiff, Nat.reduceBEq, ↓reduceIte, reduceCtorEq, fA]
end Go.Proofs.Ytninkfpeeemcoaa.Ab.T07
namespace Go.Proofs.Ytninkfpeeemcoaa.Ab.T07
open Go Go.RowKit
set_option linter.unusedVariables false
set_option linter.unusedSimpArgs false
set_option maxRecDepth 100000
structure C4 where
  a : Int
  b : Int
  c : Int
  d : Int
instance : Inhabited C4 := ⟨⟨0, 0, 0, 0⟩⟩
structure C6 where
  a : Int
  b : Int
  c : Int
  d : Int
  e : Int
  f : Int
def c4R (c : C4) : List DV := [.v (.int .u8 c.a), .v (.int .u8 c.b), .v (.int .u8 c.c), .v (.int .u8 c.d)]
structure C4.Ok (z : C4) : Prop where
  a : By z.a
  b : By z.b
  c : By z.c
  d : By z.d
structure C6.Ok (z : C6) : Prop where
  a : By z.a
  b : By z.b
  c : By z.c
  d : By z.d
  e : By z.e
  f : By z.f
/-- A shop in bytes. -/
structure Sh where
  hs : C6
  ls : List C4
structure Sh.Ok (x : Sh) : Prop where
  hs : x.hs.Ok
  ls : ∀ c ∈ x.ls, c.Ok
def shA (x : Sh) : List AV := [.v (.int .u8 x.hs.a), .v (.int .u8 x.hs.b), .v (.int .u8 x.hs.c), .v (.int .u8 x.hs.d), .v (.int .u8 x.hs.e), .v (.int .u8 x.hs.f), .sl 4 (x.ls.map c4R)]
def houseX (x : Sh) : Hs := ⟨x.hs.a % 8, [(x.hs.b % 20, x.hs.b % 20 + x.hs.c % 5), (x.hs.d % 9, x.hs.d % 9 + x.hs.e % 3)], [x.hs.f % 150, x.hs.f / 3]⟩
theorem houseX_ok {x : Sh} (hx : x.Ok) : OkH (houseX x) := by
  obtain ⟨⟨a, b, c, d, e, f⟩, _⟩ := hx
  unfold By at *
  refine ⟨by simp only [houseX]; omega, by simp [houseX], by simp [houseX], fun s hs => ?_, fun n hn => ?_⟩
  · simp only [houseX, List.mem_cons, List.not_mem_nil, or_false] at hs
    rcases hs with rfl | rfl <;> (simp only; omega)
  · simp only [houseX, List.mem_cons, List.not_mem_nil, or_false] at hn
    rcases hn with rfl | rfl <;> omega
def setI (r : Rl) (i : Nat) (v : Int) : Rl := fun j => if j = i then v else r j
/-- A fan is made. -/
def fanG (t : Sp) (l : List Int) (n : Nat) : Int := t.1 + byteI l n % (t.2 - t.1 + 1)
def fanR (h : Hs) (l : List Int) (i w : Nat) (r : Rl) (fans : Nat) : Rl :=
  setI (setI r (12 + 2 * w) (r (12 + 2 * w) + fanG (nth h.tk 0) l (i + fans))) (12 + 2 * w + 1) (r (12 + 2 * w + 1) + fanG (nth h.tk 1) l (i + fans + 1))
/-- Fans, as long as there is enough. -/
def fansS (h : Hs) (l : List Int) (i w : Nat) : Nat → Nat → Rl → Nat × Rl
  | 0, fans, r => (fans, r)
  | k + 1, fans, r => if leftI r w 0 ≥ (nth h.tk 0).2 ∧ leftI r w 1 ≥ (nth h.tk 1).2 then fansS h l i w k (fans + 1) (fanR h l i w r fans) else (fans, r)
abbrev St := List En × Rl
def wOf (v : C4) : Nat := (v.a % 3).toNat
def sOf (v : C4) : Nat := (v.a / 4 % 2).toNat
def stepS (h : Hs) (l : List Int) (i : Nat) (v : C4) (st : St) : St :=
  if v.b % 3 = 0 then (st.1 ++ [⟨wOf v, 1, sOf v, showI h (40 + 3 * v.c) l i⟩], setI st.2 (2 * wOf v + sOf v) (st.2 (2 * wOf v + sOf v) + (40 + 3 * v.c)))
  else if v.b % 3 = 1 then (st.1 ++ [⟨wOf v, 2, sOf v, showI h (v.c * leftI st.2 (wOf v) (sOf v) / 255) l i⟩], setI st.2 (6 + 2 * wOf v + sOf v) (st.2 (6 + 2 * wOf v + sOf v) + v.c * leftI st.2 (wOf v) (sOf v) / 255))
  else (st.1 ++ [⟨wOf v, 3, 0, (fansS h l i (wOf v) (v.c % 20).toNat 0 st.2).1⟩], (fansS h l i (wOf v) (v.c % 20).toNat 0 st.2).2)
def stN (x : Sh) (l : List Int) : Nat → St
  | 0 => ([], fun _ => 0)
  | i + 1 => stepS (houseX x) l i (nth x.ls i) (stN x l i)
/-- What was lost. -/
def lostG (h : Hs) (l : List Int) (r : Rl) (w s : Nat) : Int := min (leftI r w s) (r (2 * w + s) * nth h.lo s / 1000) * byteI l (w + s : Nat) / 255
def lostS (h : Hs) (l : List Int) (r : Rl) : Nat → Rl
  | 0 => r
  | n + 1 => setI (lostS h l r n) (18 + n) (lostG h l (lostS h l r n) (n / 2) (n % 2))
def numX (x : Sh) : Nat := min x.ls.length 10
def bookX (x : Sh) (l : List Int) : List En := (stN x l (numX x)).1
def realX (x : Sh) (l : List Int) : Rl := lostS (houseX x) l (stN x l (numX x)).2 6
end Go.Proofs.Ytninkfpeeemcoaa.Ab.T07
namespace Go.Proofs.Ytninkfpeeemcoaa.Ab.T07
open Go Go.RowKit
set_option linter.unusedVariables false
set_option linter.unusedSimpArgs false
set_option maxRecDepth 100000
def nof0 : Nat → Bool := fun _ => false
/-- An account holds of what truly happened. -/
structure AcT (a : Ac) (r : Rl) (w s : Nat) : Prop where
  o : a.o1 ≤ r (2 * w + s) ∧ r (2 * w + s) ≤ a.o2
  b : a.b1 ≤ r (6 + 2 * w + s) ∧ r (6 + 2 * w + s) ≤ a.b2
  f : a.f1 ≤ r (12 + 2 * w + s) ∧ r (12 + 2 * w + s) ≤ a.f2
theorem accN_pre {h : Hs} {b : List En} {x : En} {w s : Int} {fr : Nat → Bool} : ∀ n, n ≤ b.length → accN h (b ++ [x]) w s fr n = accN h b w s fr n
  | 0, _ => rfl
  | n + 1, hn => by
    rw [accN, accN, accN_pre n (by omega)]
    congr 1
    unfold nth
    simp only [List.getD_eq_getElem?_getD]
    rw [List.getElem?_append_left (by omega)]
theorem acc_snoc (h : Hs) (b : List En) (x : En) (w s : Int) : acc h (b ++ [x]) w s nof0 = accS h w s (acc h b w s nof0) x false := by
  have hn : nth (b ++ [x]) b.length = x := by unfold nth; simp [List.getD_eq_getElem?_getD]
  unfold acc
  rw [List.length_append, List.length_cons, List.length_nil, Nat.zero_add, accN, hn, accN_pre _ (Nat.le_refl _)]
  rfl
theorem setI_eq (r : Rl) (i : Nat) (v : Int) : setI r i v i = v := if_pos rfl
theorem setI_ne (r : Rl) {i j : Nat} (v : Int) (h : j ≠ i) : setI r i v j = r j := if_neg h
/-- All is true so far: of n lines. -/
structure TrS (h : Hs) (st : St) (n : Nat) : Prop where
  len : st.1.length = n
  en : ∀ x ∈ st.1, OkE h x
  nn : ∀ j, 0 ≤ st.2 j
  out : ∀ w s : Nat, w < 3 → s < 2 → st.2 (2 * w + s) ≤ 805 * n
  lost : ∀ j, 18 ≤ j → st.2 j = 0
  left : ∀ w s : Nat, w < 3 → s < 2 → 0 ≤ leftI st.2 w s
  ac : ∀ w s : Nat, w < 3 → s < 2 → AcT (acc h st.1 w s nof0) st.2 w s
theorem TrS.zero (h : Hs) : TrS h ([], fun _ => 0) 0 := by
  refine ⟨rfl, by simp, by simp, by simp, by simp, by simp [leftI], fun w s _ _ => ?_⟩
  refine ⟨?_, ?_, ?_⟩ <;> simp [acc, accN]
theorem accS_out (h : Hs) (w s : Int) (a : Ac) (W S c : Int) : accS h w s a ⟨W, 1, S, c⟩ false = if W = w ∧ S = s then { a with o1 := a.o1 + max 0 (c - h.sc), o2 := a.o2 + (c + h.sc) } else a := by
  unfold accS cnt wgt
  simp only [Bool.false_eq_true, if_false, show ¬ ((1 : Int) = 3) by decide, if_true]
  by_cases c1 : W = w
  · by_cases c2 : S = s
    · rw [if_neg (by simp [c1]), if_neg (by simp [c2]), if_pos ⟨c1, c2⟩]
    · rw [if_neg (by simp [c1]), if_pos c2, if_neg (fun g => c2 g.2)]
  · rw [if_pos c1, if_neg (fun g => c1 g.1)]
theorem accS_back (h : Hs) (w s : Int) (a : Ac) (W S c : Int) : accS h w s a ⟨W, 2, S, c⟩ false = if W = w ∧ S = s then { a with b1 := a.b1 + max 0 (c - h.sc), b2 := a.b2 + (c + h.sc) } else a := by
  unfold accS cnt wgt
  simp only [Bool.false_eq_true, if_false, show ¬ ((2 : Int) = 3) by decide, show ¬ ((2 : Int) = 1) by decide]
  by_cases c1 : W = w
  · by_cases c2 : S = s
    · rw [if_neg (by simp [c1]), if_neg (by simp [c2]), if_pos ⟨c1, c2⟩]
    · rw [if_neg (by simp [c1]), if_pos c2, if_neg (fun g => c2 g.2)]
  · rw [if_pos c1, if_neg (fun g => c1 g.1)]
theorem accS_fan (h : Hs) (w s : Int) (a : Ac) (W S c : Int) : accS h w s a ⟨W, 3, S, c⟩ false = if W = w then { a with f1 := a.f1 + c * (nth h.tk s.toNat).1, f2 := a.f2 + c * (nth h.tk s.toNat).2 } else a := by
  unfold accS cnt wgt
  simp only [Bool.false_eq_true, if_false, if_true]
  by_cases c1 : W = w
  · rw [if_neg (by simp [c1]), if_pos c1]
  · rw [if_pos c1, if_neg c1]
theorem leftI_set (r : Rl) (j : Nat) (v : Int) (w s : Nat) : leftI (setI r j v) w s = leftI r w s + (if j = 2 * w + s then v - r j else 0) - (if j = 6 + 2 * w + s then v - r j else 0) - (if j = 12 + 2 * w + s then v - r j else 0) - (if j = 18 + 2 * w + s then v - r j else 0) := by
  have e : ∀ m, setI r j v m = r m + (if j = m then v - r j else 0) := fun m => by
    unfold setI
    by_cases c : m = j
    · rw [if_pos c, if_pos c.symm, c]; omega
    · rw [if_neg c, if_neg (fun g => c g.symm)]; omega
  unfold leftI
  rw [e, e, e, e]
  omega
theorem set_add (r : Rl) (j : Nat) (n : Int) (m : Nat) : setI r j (r j + n) m = r m + (if j = m then n else 0) := by
  unfold setI
  by_cases c : m = j
  · rw [if_pos c, if_pos c.symm, c]
  · rw [if_neg c, if_neg (fun g => c g.symm)]; omega
theorem left_add (r : Rl) (j : Nat) (n : Int) (w s : Nat) : leftI (setI r j (r j + n)) w s = leftI r w s + (if j = 2 * w + s then n else 0) - (if j = 6 + 2 * w + s then n else 0) - (if j = 12 + 2 * w + s then n else 0) - (if j = 18 + 2 * w + s then n else 0) := by
  rw [leftI_set]
  have : r j + n - r j = n := by omega
  rw [this]
theorem fanG_bd {t : Sp} (ht : t.1 ≤ t.2) (l : List Int) (n : Nat) : t.1 ≤ fanG t l n ∧ fanG t l n ≤ t.2 := by
  unfold fanG
  have h1 := Int.emod_nonneg (byteI l n) (b := t.2 - t.1 + 1) (by omega)
  have h2 := Int.emod_lt_of_pos (byteI l n) (b := t.2 - t.1 + 1) (by omega)
  omega
theorem fanR_at (h : Hs) (l : List Int) (i w : Nat) (r : Rl) (f m : Nat) : fanR h l i w r f m = r m + (if m = 12 + 2 * w then fanG (nth h.tk 0) l (i + f) else 0) + (if m = 12 + 2 * w + 1 then fanG (nth h.tk 1) l (i + f + 1) else 0) := by
  unfold fanR setI
  by_cases c1 : m = 12 + 2 * w
  · rw [if_neg (by omega), if_pos c1, if_pos c1, if_neg (by omega), c1]; omega
  · by_cases c2 : m = 12 + 2 * w + 1
    · rw [if_pos c2, if_neg c1, if_pos c2, c2]; omega
    · rw [if_neg c2, if_neg c1, if_neg c1, if_neg c2]; omega
theorem fan_left (h : Hs) (l : List Int) (i W : Nat) (r : Rl) (f s : Nat) (hs : s < 2) : leftI (fanR h l i W r f) W s = leftI r W s - fanG (nth h.tk s) l (i + f + s) := by
  unfold leftI
  rw [fanR_at, fanR_at, fanR_at, fanR_at]
  obtain rfl | rfl : s = 0 ∨ s = 1 := by omega
  · rw [if_neg (by omega), if_neg (by omega), if_neg (by omega), if_neg (by omega), if_pos (by omega), if_neg (by omega), if_neg (by omega), if_neg (by omega)]
    simp only [Nat.add_zero]
    omega
  · rw [if_neg (by omega), if_neg (by omega), if_neg (by omega), if_neg (by omega), if_neg (by omega), if_pos (by omega), if_neg (by omega), if_neg (by omega)]
    omega
structure FanO (h : Hs) (W f : Nat) (r : Rl) (k : Nat) (q : Nat × Rl) : Prop where
  n : f ≤ q.1 ∧ q.1 ≤ f + k
  ot : ∀ m, m ≠ 12 + 2 * W → m ≠ 12 + 2 * W + 1 → q.2 m = r m
  fn : ∀ s : Nat, s < 2 → r (12 + 2 * W + s) + ((q.1 : Int) - f) * (nth h.tk s).1 ≤ q.2 (12 + 2 * W + s) ∧ q.2 (12 + 2 * W + s) ≤ r (12 + 2 * W + s) + ((q.1 : Int) - f) * (nth h.tk s).2
  left : ∀ s : Nat, s < 2 → 0 ≤ leftI q.2 W s
theorem fansS_ok {h : Hs} {l : List Int} {i W : Nat} (ht : ∀ s : Nat, s < 2 → 0 ≤ (nth h.tk s).1 ∧ (nth h.tk s).1 ≤ (nth h.tk s).2) : ∀ (k f : Nat) (r : Rl), (∀ s : Nat, s < 2 → 0 ≤ leftI r W s) → FanO h W f r k (fansS h l i W k f r)
  | 0, f, r, hl => ⟨⟨Nat.le_refl _, Nat.le_refl _⟩, fun _ _ _ => rfl, fun s hs => by simp [fansS], hl⟩
  | k + 1, f, r, hl => by
    rw [fansS]
    by_cases c : leftI r W 0 ≥ (nth h.tk 0).2 ∧ leftI r W 1 ≥ (nth h.tk 1).2
    · rw [if_pos c]
      have g : ∀ s : Nat, s < 2 → fanG (nth h.tk s) l (i + f + s) ≤ leftI r W s := fun s hs => by
        have b := fanG_bd (ht s hs).2 l (i + f + s)
        obtain rfl | rfl : s = 0 ∨ s = 1 := by omega
        · omega
        · omega
      have o := fansS_ok (h := h) (l := l) (i := i) (W := W) ht k (f + 1) (fanR h l i W r f) fun s hs => by rw [fan_left h l i W r f s hs]; have := g s hs; omega
      generalize fansS h l i W k (f + 1) (fanR h l i W r f) = q at o
      obtain ⟨o1, o2, o3, o4⟩ := o
      refine ⟨by omega, fun m m1 m2 => ?_, fun s hs => ?_, o4⟩
      · rw [o2 m m1 m2, fanR_at, if_neg m1, if_neg m2]; omega
      · have b := fanG_bd (ht s hs).2 l (i + f + s)
        have o3 := o3 s hs
        have e : ((q.1 : Int) - f) = ((q.1 : Int) - ((f + 1 : Nat) : Int)) + 1 := by omega
        rw [e, Int.add_mul, Int.add_mul, Int.one_mul, Int.one_mul]
        have er : fanR h l i W r f (12 + 2 * W + s) = r (12 + 2 * W + s) + fanG (nth h.tk s) l (i + f + s) := by
          rw [fanR_at]
          obtain rfl | rfl : s = 0 ∨ s = 1 := by omega
          · rw [if_pos (by omega), if_neg (by omega)]; simp only [Nat.add_zero]; omega
          · rw [if_neg (by omega), if_pos (by omega)]; omega
        rw [er] at o3
        omega
    · rw [if_neg c]
      exact ⟨⟨Nat.le_refl _, by omega⟩, fun _ _ _ => rfl, fun s hs => by simp, hl⟩
theorem wOf_bd {v : C4} (hv : v.Ok) : wOf v < 3 ∧ sOf v < 2 := by
  have := hv.a
  unfold By at this
  unfold wOf sOf
  omega
theorem TrS.out_step {h : Hs} {l : List Int} {i W S n : Nat} {st : St} {g : Int} (hh : OkH h) (h2 : h.tk.length = 2) (hsc : h.sc ≤ 7) (hW : W < 3) (hS : S < 2) (hg : 0 ≤ g ∧ g ≤ 805) (t : TrS h st n) :
    TrS h (st.1 ++ [⟨W, 1, S, showI h g l i⟩], setI st.2 (2 * W + S) (st.2 (2 * W + S) + g)) (n + 1) := by
  have hs0 := hh.sc.1
  have sb := showI_bd hs0 g l i
  refine ⟨by simp [t.len], fun x hx => ?_, fun j => ?_, fun w s hw hs => ?_, fun j hj => ?_, fun w s hw hs => ?_, fun w s hw hs => ?_⟩
  · rcases List.mem_append.1 hx with h1 | h1
    · exact t.en x h1
    · have : x = ⟨W, 1, S, showI h g l i⟩ := by simpa using h1
      subst this
      refine ⟨by simp only; omega, .inl ⟨.inl rfl, by simp only; omega, by simp only; omega⟩, ?_⟩
      have e : mostE ⟨W, 1, S, showI h g l i⟩ = 100000 := by unfold mostE; rw [if_neg (by simp)]
      rw [e]
      simp only
      omega
  · have := t.nn j
    simp only
    rw [set_add]
    split <;> omega
  · have := t.out w s hw hs
    simp only
    rw [set_add]
    split <;> omega
  · simp only
    rw [set_add, if_neg (by omega), t.lost j hj]; rfl
  · have := t.left w s hw hs
    simp only
    rw [left_add, if_neg (show ¬ 2 * W + S = 6 + 2 * w + s by omega), if_neg (show ¬ 2 * W + S = 12 + 2 * w + s by omega), if_neg (show ¬ 2 * W + S = 18 + 2 * w + s by omega)]
    split <;> omega
  · obtain ⟨a1, a2, a3⟩ := t.ac w s hw hs
    simp only
    rw [acc_snoc, accS_out]
    by_cases c : (W : Int) = w ∧ (S : Int) = s
    · rw [if_pos c]
      have e : 2 * W + S = 2 * w + s := by omega
      refine ⟨?_, ?_, ?_⟩ <;> simp only <;> rw [set_add]
      · rw [if_pos e]; omega
      · rw [if_neg (by omega)]; omega
      · rw [if_neg (by omega)]; omega
    · rw [if_neg c]
      refine ⟨?_, ?_, ?_⟩ <;> rw [set_add, if_neg (by omega)] <;> omega
theorem TrS.back_step {h : Hs} {l : List Int} {i W S n : Nat} {st : St} {g : Int} (hh : OkH h) (h2 : h.tk.length = 2) (hsc : h.sc ≤ 7) (hW : W < 3) (hS : S < 2) (hg : 0 ≤ g ∧ g ≤ leftI st.2 W S) (hn : n < 10) (t : TrS h st n) :
    TrS h (st.1 ++ [⟨W, 2, S, showI h g l i⟩], setI st.2 (6 + 2 * W + S) (st.2 (6 + 2 * W + S) + g)) (n + 1) := by
  have hs0 := hh.sc.1
  have sb := showI_bd hs0 g l i
  have hl : leftI st.2 W S ≤ 8050 := by
    have := t.out W S hW hS
    have a1 := t.nn (6 + 2 * W + S)
    have a2 := t.nn (12 + 2 * W + S)
    have a3 := t.nn (18 + 2 * W + S)
    unfold leftI
    omega
  refine ⟨by simp [t.len], fun x hx => ?_, fun j => ?_, fun w s hw hs => ?_, fun j hj => ?_, fun w s hw hs => ?_, fun w s hw hs => ?_⟩
  · rcases List.mem_append.1 hx with h1 | h1
    · exact t.en x h1
    · have : x = ⟨W, 2, S, showI h g l i⟩ := by simpa using h1
      subst this
      refine ⟨by simp only; omega, .inl ⟨.inr rfl, by simp only; omega, by simp only; omega⟩, ?_⟩
      have e : mostE ⟨W, 2, S, showI h g l i⟩ = 100000 := by unfold mostE; rw [if_neg (by simp)]
      rw [e]
      simp only
      omega
  · have := t.nn j
    simp only
    rw [set_add]
    split <;> omega
  · have := t.out w s hw hs
    simp only
    rw [set_add, if_neg (by omega)]
    omega
  · simp only
    rw [set_add, if_neg (by omega), t.lost j hj]; rfl
  · have := t.left w s hw hs
    simp only
    rw [left_add, if_neg (show ¬ 6 + 2 * W + S = 2 * w + s by omega), if_neg (show ¬ 6 + 2 * W + S = 12 + 2 * w + s by omega), if_neg (show ¬ 6 + 2 * W + S = 18 + 2 * w + s by omega)]
    split
    · have e1 : W = w := by omega
      have e2 : S = s := by omega
      subst e1 e2
      omega
    · omega
  · obtain ⟨a1, a2, a3⟩ := t.ac w s hw hs
    simp only
    rw [acc_snoc, accS_back]
    by_cases c : (W : Int) = w ∧ (S : Int) = s
    · rw [if_pos c]
      have e : 6 + 2 * W + S = 6 + 2 * w + s := by omega
      refine ⟨?_, ?_, ?_⟩ <;> simp only <;> rw [set_add]
      · rw [if_neg (by omega)]; omega
      · rw [if_pos e]; omega
      · rw [if_neg (by omega)]; omega
    · rw [if_neg c]
      refine ⟨?_, ?_, ?_⟩ <;> rw [set_add, if_neg (by omega)] <;> omega
theorem TrS.fan_step {h : Hs} {W n k : Nat} {st : St} {q : Nat × Rl} (hh : OkH h) (h2 : h.tk.length = 2) (hW : W < 3) (hk : k ≤ 19) (o : FanO h W 0 st.2 k q) (t : TrS h st n) :
    TrS h (st.1 ++ [⟨W, 3, 0, q.1⟩], q.2) (n + 1) := by
  obtain ⟨o1, o2, o3, o4⟩ := o
  have ht : ∀ s : Nat, s < 2 → 0 ≤ (nth h.tk s).1 ∧ (nth h.tk s).1 ≤ (nth h.tk s).2 ∧ (nth h.tk s).2 ≤ 1000 := fun s hs => hh.tks _ (nth_mem (by omega))
  have hq : (q.1 : Int) - ((0 : Nat) : Int) = (q.1 : Int) := by omega
  rw [hq] at o3
  have oth : ∀ w s : Nat, w < 3 → s < 2 → w ≠ W → leftI q.2 w s = leftI st.2 w s := fun w s hw hs hne => by
    unfold leftI
    rw [o2 _ (by omega) (by omega), o2 _ (by omega) (by omega), o2 _ (by omega) (by omega), o2 _ (by omega) (by omega)]
  refine ⟨by simp [t.len], fun x hx => ?_, fun j => ?_, fun w s hw hs => ?_, fun j hj => ?_, fun w s hw hs => ?_, fun w s hw hs => ?_⟩
  · rcases List.mem_append.1 hx with h1 | h1
    · exact t.en x h1
    · have : x = ⟨W, 3, 0, q.1⟩ := by simpa using h1
      subst this
      refine ⟨by simp only; omega, .inr ⟨rfl, rfl⟩, ?_⟩
      have e : mostE ⟨W, 3, 0, q.1⟩ = 500 := by unfold mostE; rw [if_pos rfl]
      rw [e]
      simp only
      omega
  · have nn := t.nn j
    simp only
    by_cases c1 : j = 12 + 2 * W
    · have a := o3 0 (by omega)
      have b := ht 0 (by omega)
      have m := Int.mul_nonneg (show (0 : Int) ≤ q.1 by omega) b.1
      rw [Nat.add_zero] at a
      rw [c1] at nn ⊢
      omega
    · by_cases c2 : j = 12 + 2 * W + 1
      · have a := o3 1 (by omega)
        have b := ht 1 (by omega)
        have m := Int.mul_nonneg (show (0 : Int) ≤ q.1 by omega) b.1
        rw [c2] at nn ⊢
        omega
      · rw [o2 j c1 c2]; exact nn
  · have := t.out w s hw hs
    simp only
    rw [o2 _ (by omega) (by omega)]
    omega
  · simp only
    rw [o2 _ (by omega) (by omega)]
    exact t.lost j hj
  · simp only
    by_cases c : w = W
    · rw [c]; exact o4 s hs
    · rw [oth w s hw hs c]; exact t.left w s hw hs
  · obtain ⟨a1, a2, a3⟩ := t.ac w s hw hs
    simp only
    rw [acc_snoc, accS_fan, Int.toNat_natCast]
    by_cases c : (W : Int) = w
    · rw [if_pos c]
      have e : w = W := by omega
      subst e
      have a := o3 s hs
      refine ⟨?_, ?_, ?_⟩ <;> simp only
      · rw [o2 _ (by omega) (by omega)]; omega
      · rw [o2 _ (by omega) (by omega)]; omega
      · omega
    · rw [if_neg c]
      refine ⟨?_, ?_, ?_⟩ <;> rw [o2 _ (by omega) (by omega)] <;> assumption
theorem TrS.step {h : Hs} {l : List Int} {i n : Nat} {v : C4} {st : St} (hh : OkH h) (h2 : h.tk.length = 2) (hsc : h.sc ≤ 7) (hv : v.Ok) (hn : n < 10) (t : TrS h st n) : TrS h (stepS h l i v st) (n + 1) := by
  obtain ⟨hW, hS⟩ := wOf_bd hv
  have hc := hv.c
  unfold By at hc
  unfold stepS
  split
  · exact t.out_step hh h2 hsc hW hS (by omega)
  · split
    · have hl := t.left _ _ hW hS
      have m := Int.mul_nonneg hc.1 hl
      have m2 := Int.mul_le_mul_of_nonneg_right (show v.c ≤ 255 by omega) hl
      exact t.back_step hh h2 hsc hW hS (by omega) hn
    · exact t.fan_step hh h2 hW (k := (v.c % 20).toNat) (by omega) (fansS_ok (fun s hs => by have := hh.tks _ (nth_mem (l := h.tk) (i := s) (by omega)); omega) _ _ _ fun s hs => t.left _ _ hW hs)
theorem stN_tr {x : Sh} (hx : x.Ok) (l : List Int) : ∀ n, n ≤ numX x → TrS (houseX x) (stN x l n) n
  | 0, _ => TrS.zero _
  | n + 1, hn => by
    have hn2 : n < x.ls.length ∧ n < 10 := by unfold numX at hn; omega
    have ha := hx.hs.a
    unfold By at ha
    exact (stN_tr hx l n (by omega)).step (houseX_ok hx) rfl (by simp only [houseX]; omega) (hx.ls _ (nth_mem hn2.1)) hn2.2
theorem leftI_congr {r r' : Rl} {w s : Nat} (h1 : r' (2 * w + s) = r (2 * w + s)) (h2 : r' (6 + 2 * w + s) = r (6 + 2 * w + s)) (h3 : r' (12 + 2 * w + s) = r (12 + 2 * w + s)) : leftI r' w s = leftI r w s + r (18 + 2 * w + s) - r' (18 + 2 * w + s) := by
  unfold leftI
  rw [h1, h2, h3]
  omega
theorem lost_ok {h : Hs} {l : List Int} {st : St} {N : Nat} (hh : OkH h) (h2 : h.tk.length = 2) (hl : ∀ n ∈ l, By n) (t : TrS h st N) : ∀ n, n ≤ 6 → (∀ j, j < 18 ∨ 18 + n ≤ j → lostS h l st.2 n j = st.2 j) ∧ (∀ m, m < n → 0 ≤ lostS h l st.2 n (18 + m) ∧ lostS h l st.2 n (18 + m) ≤ leftI st.2 (m / 2) (m % 2) ∧ lostS h l st.2 n (18 + m) ≤ st.2 m * nth h.lo (m % 2) / 1000)
  | 0, _ => ⟨fun j _ => rfl, fun m hm => by omega⟩
  | n + 1, hn => by
    obtain ⟨i1, i2⟩ := lost_ok hh h2 hl t n (by omega)
    have hne : ∀ m, m ≠ 18 + n → lostS h l st.2 (n + 1) m = lostS h l st.2 n m := fun m hm => by rw [lostS, setI_ne _ _ hm]
    have heq : lostS h l st.2 (n + 1) (18 + n) = lostG h l (lostS h l st.2 n) (n / 2) (n % 2) := by rw [lostS, setI_eq]
    refine ⟨fun j hj => by rw [hne j (by omega)]; exact i1 j (by omega), fun m hm => ?_⟩
    by_cases c : m = n
    · subst c
      rw [heq]
      have e : leftI (lostS h l st.2 m) (m / 2) (m % 2) = leftI st.2 (m / 2) (m % 2) := by
        rw [leftI_congr (i1 _ (by omega)) (i1 _ (by omega)) (i1 _ (by omega)), i1 _ (by omega)]
        omega
      have e2 : 2 * (m / 2) + m % 2 = m := by omega
      unfold lostG
      rw [e, e2, i1 m (by omega)]
      have hb := byteI_bd hl ((m / 2 + m % 2 : Nat) : Int)
      have hlf := t.left (m / 2) (m % 2) (by omega) (by omega)
      have hlo := hh.los _ (nth_mem (l := h.lo) (i := m % 2) (by have := hh.lo; omega))
      have hnn := t.nn m
      have hx : 0 ≤ st.2 m * nth h.lo (m % 2) / 1000 := Int.ediv_nonneg (Int.mul_nonneg hnn hlo.1) (by omega)
      generalize leftI st.2 (m / 2) (m % 2) = A at *
      generalize st.2 m * nth h.lo (m % 2) / 1000 = B at *
      generalize byteI l ((m / 2 + m % 2 : Nat) : Int) = C at *
      have m1 := Int.mul_nonneg (show 0 ≤ min A B by omega) hb.1
      have m2 := Int.mul_le_mul_of_nonneg_left (show C ≤ 255 by omega) (show 0 ≤ min A B by omega)
      omega
    · rw [hne _ (by omega)]
      exact i2 m (by omega)
theorem TrS.bd {h : Hs} {st : St} {n : Nat} (hn : n ≤ 10) (t : TrS h st n) : Rl.Bd st.2 := fun j => by
  refine ⟨t.nn j, ?_⟩
  by_cases c : 18 ≤ j
  · rw [t.lost j c]; omega
  · have hw : j / 2 % 3 < 3 := Nat.mod_lt _ (by omega)
    have hs : j % 2 < 2 := Nat.mod_lt _ (by omega)
    have a := t.out _ _ hw hs
    have l := t.left _ _ hw hs
    have a1 := t.nn (6 + 2 * (j / 2 % 3) + j % 2)
    have a2 := t.nn (12 + 2 * (j / 2 % 3) + j % 2)
    have a3 := t.nn (18 + 2 * (j / 2 % 3) + j % 2)
    unfold leftI at l
    have e : j = 2 * (j / 2 % 3) + j % 2 ∨ j = 6 + 2 * (j / 2 % 3) + j % 2 ∨ j = 12 + 2 * (j / 2 % 3) + j % 2 := by omega
    generalize 2 * (j / 2 % 3) + j % 2 = x1 at *
    generalize 6 + 2 * (j / 2 % 3) + j % 2 = x2 at *
    generalize 12 + 2 * (j / 2 % 3) + j % 2 = x3 at *
    rcases e with e | e | e <;> rw [e] <;> omega
/-- What is so at the end. -/
structure TrF (h : Hs) (b : List En) (r : Rl) : Prop where
  ok : Ok h b
  ten : b.length ≤ 10
  nn : ∀ j, 0 ≤ r j
  out : ∀ w s : Nat, w < 3 → s < 2 → r (2 * w + s) ≤ 8050
  left : ∀ w s : Nat, w < 3 → s < 2 → 0 ≤ leftI r w s
  ac : ∀ w s : Nat, w < 3 → s < 2 → AcT (acc h b w s nof0) r w s
  lost : ∀ w s : Nat, w < 3 → s < 2 → r (18 + 2 * w + s) ≤ r (2 * w + s) * nth h.lo s / 1000
theorem shop_true {x : Sh} (hx : x.Ok) {l : List Int} (hl : ∀ n ∈ l, By n) : TrF (houseX x) (bookX x l) (realX x l) := by
  have t := stN_tr hx l (numX x) (Nat.le_refl _)
  have hN : numX x ≤ 10 := by unfold numX; omega
  obtain ⟨i1, i2⟩ := lost_ok (houseX_ok hx) rfl hl t 6 (Nat.le_refl _)
  have hlen : (bookX x l).length = numX x := t.len
  have e1 : ∀ j, j < 18 → realX x l j = (stN x l (numX x)).2 j := fun j hj => i1 j (by omega)
  refine ⟨⟨houseX_ok hx, by omega, t.en⟩, by omega, fun j => ?_, fun w s hw hs => ?_, fun w s hw hs => ?_, fun w s hw hs => ?_, fun w s hw hs => ?_⟩
  · by_cases c : 18 ≤ j ∧ j < 24
    · have := i2 (j - 18) (by omega)
      rw [show 18 + (j - 18) = j by omega] at this
      exact this.1
    · have := i1 j (by omega)
      unfold realX
      rw [this]
      exact t.nn j
  · rw [e1 _ (by omega)]
    have := t.out w s hw hs
    omega
  · rw [leftI_congr (e1 _ (by omega)) (e1 _ (by omega)) (e1 _ (by omega)), t.lost _ (by omega)]
    have := i2 (2 * w + s) (by omega)
    rw [show (2 * w + s) / 2 = w by omega, show (2 * w + s) % 2 = s by omega, show 18 + (2 * w + s) = 18 + 2 * w + s by omega] at this
    unfold realX
    omega
  · obtain ⟨a1, a2, a3⟩ := t.ac w s hw hs
    exact ⟨by rw [e1 _ (by omega)]; exact a1, by rw [e1 _ (by omega)]; exact a2, by rw [e1 _ (by omega)]; exact a3⟩
  · have := i2 (2 * w + s) (by omega)
    rw [show (2 * w + s) / 2 = w by omega, show (2 * w + s) % 2 = s by omega, show 18 + (2 * w + s) = 18 + 2 * w + s by omega] at this
    rw [e1 (2 * w + s) (by omega)]
    exact this.2.2
end Go.Proofs.Ytninkfpeeemcoaa.Ab.T07
