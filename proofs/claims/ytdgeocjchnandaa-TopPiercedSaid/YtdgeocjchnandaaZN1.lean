/- The columns in which a blade's cracks can be, one after another; plain. The walk of columns: it yields its own slice, with which it goes on. A blade as it is in the best truth in which its cracks are in some columns. -/
import Derived.Test.YtdgeocjchnandaaZB4
import Derived.Test.YtdgeocjchnandaaZT12
namespace Go.Proofs.Ytdgeocjchnandaa.Ab.T01
open Go Go.RowKit
set_option linter.unusedSimpArgs false
set_option linter.unusedVariables false
def lowsC (cs : List Crk) : List Int := cs.map fun c => c.col.1
def highsC (cs : List Crk) : List Int := cs.map fun c => c.col.2
/-- All columns, in order. -/
def colsL : List Crk → List (List Int)
  | [] => [[]]
  | c :: cs => (List.range (c.col.2 - c.col.1 + 1).toNat).flatMap fun (d : Nat) => (colsL cs).map fun l => (c.col.1 + (d : Int)) :: l
/-- The next columns: the last one that is not the highest goes on, those behind it begin again. -/
structure NextC (cs : List Crk) (l l' : List Int) (a : Nat) : Prop where
  lt : a < cs.length
  len : l.length = cs.length
  ne : nth l a ≠ (nth cs a).col.2
  hi : ∀ j, a < j → j < cs.length → nth l j = (nth cs j).col.2
  eq : l' = l.take a ++ (nth l a + 1) :: (lowsC cs).drop (a + 1)
def RunTo (cs : List Crk) : List Int → List (List Int) → List Int → Prop
  | a, [], z => a = z
  | a, b :: l, z => (∃ i, NextC cs a b i) ∧ RunTo cs b l z
theorem RunTo.append {cs : List Crk} {b z2 : List Int} {l2 : List (List Int)} : ∀ {l : List (List Int)} {a z : List Int}, RunTo cs a l z → (∃ i, NextC cs z b i) → RunTo cs b l2 z2 → RunTo cs a (l ++ b :: l2) z2
  | [], a, z, h, hn, h2 => by
    have : a = z := h
    subst this
    exact ⟨hn, h2⟩
  | c :: l, a, z, h, hn, h2 => ⟨h.1, RunTo.append h.2 hn h2⟩
theorem nth_cons0 {α : Type} [Inhabited α] (a : α) (l : List α) : nth (a :: l) 0 = a := rfl
theorem nth_consS {α : Type} [Inhabited α] (a : α) (l : List α) (i : Nat) : nth (a :: l) (i + 1) = nth l i := rfl
theorem NextC.cons {cs : List Crk} {l l' : List Int} {a : Nat} (h : NextC cs l l' a) (c : Crk) (x : Int) : NextC (c :: cs) (x :: l) (x :: l') (a + 1) := by
  obtain ⟨h1, h2, h3, h4, h5⟩ := h
  refine ⟨by simp; omega, by simp [h2], by rw [nth_consS, nth_consS]; exact h3, fun j hj hl => ?_, ?_⟩
  · obtain ⟨k, rfl⟩ : ∃ k, j = k + 1 := ⟨j - 1, by omega⟩
    rw [nth_consS, nth_consS]
    exact h4 k (by omega) (by simpa using hl)
  · rw [nth_consS, h5]
    simp [lowsC]
theorem RunTo.cons {cs : List Crk} (c : Crk) (x : Int) : ∀ {l : List (List Int)} {a z : List Int}, RunTo cs a l z → RunTo (c :: cs) (x :: a) (l.map fun l => x :: l) (x :: z)
  | [], a, z, h => by
    have : a = z := h
    subst this
    rfl
  | b :: l, a, z, ⟨⟨i, h1⟩, h2⟩ => ⟨⟨i + 1, h1.cons c x⟩, RunTo.cons c x h2⟩
theorem highs_nth {cs : List Crk} {j : Nat} (hj : j < cs.length) : nth (highsC cs) j = (nth cs j).col.2 := by
  unfold highsC nth
  simp [List.getD_eq_getElem?_getD, hj]
theorem cols_run : ∀ {cs : List Crk}, (∀ c ∈ cs, c.col.1 ≤ c.col.2) → ∃ l, colsL cs = lowsC cs :: l ∧ RunTo cs (lowsC cs) l (highsC cs)
  | [], _ => ⟨[], rfl, rfl⟩
  | c :: cs, h => by
    obtain ⟨l, h1, h2⟩ := cols_run (cs := cs) fun d hd => h d (by simp [hd])
    have hc := h c (by simp)
    have key : ∀ k : Nat, (k : Int) ≤ c.col.2 - c.col.1 → ∃ L, ((List.range (k + 1)).flatMap fun (d : Nat) => (colsL cs).map fun l => (c.col.1 + (d : Int)) :: l) = lowsC (c :: cs) :: L ∧ RunTo (c :: cs) (lowsC (c :: cs)) L ((c.col.1 + k) :: highsC cs) := fun k => by
      induction k with
      | zero =>
        intro _
        refine ⟨l.map fun l => c.col.1 :: l, ?_, ?_⟩
        · rw [h1]
          simp [lowsC]
        · have := h2.cons c c.col.1
          simpa [lowsC] using this
      | succ k ih =>
        intro hk
        obtain ⟨L, e1, e2⟩ := ih (by omega)
        refine ⟨L ++ ((c.col.1 + ((k + 1 : Nat) : Int)) :: lowsC cs) :: l.map fun l => (c.col.1 + ((k + 1 : Nat) : Int)) :: l, ?_, ?_⟩
        · rw [List.range_succ, List.flatMap_append, e1, List.flatMap_cons, List.flatMap_nil, List.append_nil, h1]
          rfl
        · refine e2.append ⟨0, by simp, by simp [highsC], ?_, fun j hj hl => ?_, ?_⟩ (h2.cons c _)
          · rw [nth_cons0, nth_cons0]
            omega
          · obtain ⟨i, rfl⟩ : ∃ i, j = i + 1 := ⟨j - 1, by omega⟩
            rw [nth_consS, nth_consS]
            exact highs_nth (by simpa using hl)
          · rw [nth_cons0]
            simp [lowsC]
            omega
    obtain ⟨L, e1, e2⟩ := key (c.col.2 - c.col.1).toNat (by omega)
    refine ⟨L, ?_, ?_⟩
    · show (List.range (c.col.2 - c.col.1 + 1).toNat).flatMap _ = _
      rw [show (c.col.2 - c.col.1 + 1).toNat = (c.col.2 - c.col.1).toNat + 1 by omega]
      exact e1
    · have : c.col.1 + ((c.col.2 - c.col.1).toNat : Int) = c.col.2 := by omega
      rw [this] at e2
      exact e2
theorem RunTo.step {cs : List Crk} : ∀ {l : List (List Int)} {a z : List Int}, RunTo cs a l z → (∀ i : Nat, i + 1 < (a :: l).length → ∃ j, NextC cs (nth (a :: l) i) (nth (a :: l) (i + 1)) j) ∧ nth (a :: l) l.length = z
  | [], a, z, h => by
    have : a = z := h
    subst this
    exact ⟨fun i hi => by simp at hi, rfl⟩
  | b :: l, a, z, ⟨h1, h2⟩ => by
    obtain ⟨g1, g2⟩ := RunTo.step h2
    refine ⟨fun i hi => ?_, ?_⟩
    · cases i with
      | zero => exact h1
      | succ i =>
        rw [nth_consS, nth_consS]
        exact g1 i (by simpa using hi)
    · exact g2
/-- The columns, by their numbers. -/
theorem cols_steps {cs : List Crk} (h : ∀ c ∈ cs, c.col.1 ≤ c.col.2) : ∃ N, (colsL cs).length = N + 1 ∧ nth (colsL cs) 0 = lowsC cs ∧ (∀ i : Nat, i < N → ∃ j, NextC cs (nth (colsL cs) i) (nth (colsL cs) (i + 1)) j) ∧ nth (colsL cs) N = highsC cs := by
  obtain ⟨l, h1, h2⟩ := cols_run h
  obtain ⟨g1, g2⟩ := h2.step
  refine ⟨l.length, by rw [h1]; rfl, by rw [h1]; rfl, fun i hi => ?_, by rw [h1]; exact g2⟩
  rw [h1]
  exact g1 i (by simp; omega)
end Go.Proofs.Ytdgeocjchnandaa.Ab.T01
namespace Go.Proofs.Ytdgeocjchnandaa.Ab.T01
open Go Go.RowKit
set_option linter.unusedSimpArgs false
set_option linter.unusedVariables false
set_option maxRecDepth 100000
theorem set_rowI {l : List Int} {i : Nat} (hi : i < l.length) (c : Int) : ((l.map iR).set i (put ((l.map iR).getD i []) 0 [.v (.int .i64 c)])) = (l.set i c).map iR := by
  have e : (l.map iR).getD i [] = iR (nth l i) := by unfold nth; simp [List.getD_eq_getElem?_getD, hi]
  rw [e, List.map_set]
  rfl
def curC (l lo : List Int) (a : Nat) : List Int := l.take a ++ lo.drop a
theorem curC_len {l lo : List Int} {a : Nat} (h : l.length = lo.length) (ha : a ≤ l.length) : (curC l lo a).length = l.length := by
  unfold curC
  rw [List.length_append, List.length_take, List.length_drop]
  omega
theorem curC_all {l lo : List Int} (h : l.length = lo.length) : curC l lo l.length = l := by
  unfold curC
  rw [List.take_length, h, List.drop_length, List.append_nil]
theorem curC_nth {l lo : List Int} {a : Nat} (ha : a < l.length) : nth (curC l lo (a + 1)) a = nth l a := by
  unfold curC nth
  simp only [List.getD_eq_getElem?_getD]
  rw [List.getElem?_append_left (by rw [List.length_take]; omega), List.getElem?_take, if_pos (by omega)]
theorem curC_set {l lo : List Int} {a : Nat} (h : l.length = lo.length) (ha : a < l.length) (v : Int) : (curC l lo (a + 1)).set a v = l.take a ++ v :: lo.drop (a + 1) := by
  unfold curC
  rw [List.set_append_left _ _ (by rw [List.length_take]; omega)]
  have : (l.take (a + 1)).set a v = l.take a ++ [v] := by
    apply List.ext_getElem?
    intro i
    rw [List.getElem?_set, List.length_take]
    by_cases e : a = i
    · subst e
      rw [if_pos rfl, if_pos (by omega), List.getElem?_append_right (by rw [List.length_take]; omega), List.length_take, show a - min a l.length = 0 by omega]
      rfl
    · rw [if_neg e]
      by_cases c : i < a
      · rw [List.getElem?_append_left (by rw [List.length_take]; omega), List.getElem?_take, List.getElem?_take, if_pos (by omega), if_pos (by omega)]
      · rw [List.getElem?_eq_none (by rw [List.length_take]; omega), List.getElem?_eq_none (by rw [List.length_append, List.length_take]; simp; omega)]
  rw [this, List.append_assoc]
  rfl
theorem curC_back {l lo : List Int} {a : Nat} (h : l.length = lo.length) (ha : a < l.length) : (curC l lo (a + 1)).set a (nth lo a) = curC l lo a := by
  rw [curC_set h ha]
  unfold curC
  have : lo.drop a = nth lo a :: lo.drop (a + 1) := by
    have e : nth lo a = lo[a]'(by omega) := by unfold nth; simp [List.getD_eq_getElem?_getD, show a < lo.length by omega]
    rw [e]
    exact List.drop_eq_getElem_cons (by omega)
  rw [this]
theorem lowsC_nth {cs : List Crk} {j : Nat} (hj : j < cs.length) : nth (lowsC cs) j = (nth cs j).col.1 := by
  unfold lowsC nth
  simp [List.getD_eq_getElem?_getD, hj]
theorem colsL_len {cs : List Crk} : ∀ l ∈ colsL cs, l.length = cs.length := by
  induction cs with
  | nil => intro l hl; simp [colsL] at hl; rw [hl]; rfl
  | cons c cs i =>
    intro l hl
    simp only [colsL, List.mem_flatMap, List.mem_map] at hl
    obtain ⟨d, _, l', h1, rfl⟩ := hl
    simp [i l' h1]
theorem colsL_bd {cs : List Crk} (h : ∀ c ∈ cs, 0 ≤ c.col.1 ∧ c.col.2 ≤ 1000) : ∀ l ∈ colsL cs, ∀ n ∈ l, 0 ≤ n ∧ n ≤ 1000 := by
  induction cs with
  | nil => intro l hl n hn; simp [colsL] at hl; rw [hl] at hn; simp at hn
  | cons c cs i =>
    intro l hl n hn
    simp only [colsL, List.mem_flatMap, List.mem_map, List.mem_range] at hl
    obtain ⟨d, hd, l', h1, rfl⟩ := hl
    have hc := h c (by simp)
    rcases List.mem_cons.1 hn with rfl | hn
    · omega
    · exact i (fun d hd => h d (by simp [hd])) l' h1 n hn
set_option pp.maxSteps 1000000
set_option pp.deepTerms true
set_option maxHeartbeats 4000000 in
theorem columns_spec (b : Bl) (low top : List Sp) (hcr : ∀ c ∈ b.cracks, 0 ≤ c.col.1 ∧ c.col.1 ≤ c.col.2 ∧ c.col.2 ≤ 1000) (h3 : b.cracks.length < 1000)
    {Φ : Nat → Value → (Nat → Prop) → (Nat → Prop) → World → Prop} (hsh : Shr Φ) (M : Nat) (stop : Bool) (hM : 1 ≤ M ∧ M ≤ (colsL b.cracks).length) (hs : stop = false → M = (colsL b.cracks).length)
    (hy : ∀ i : Nat, i < M → CbG Try.prog [.sl 1 ((nth (colsL b.cracks) i).map iR)] [.opq (Φ i)] (.v (.bool (!(stop && decide (i + 1 = M))))) [.opq (Φ (i + 1))]) :
    SpecG Try.prog 16 [.agg [.sl 2 (b.bottom.map spR), .sl 2 (b.top.map spR), .v (.int .i64 b.bend), .sl 6 (b.cracks.map crR), .sl 2 (low.map spR), .sl 2 (top.map spR)], .yl 0] [.opq (Φ 0)] (.tup []) [.opq (Φ M)] := by
  obtain ⟨N, hN1, hN2, hN3, hN4⟩ := cols_steps (cs := b.cracks) fun c hc => (hcr c hc).2.1
  have hlen := colsL_len (cs := b.cracks)
  have hbd := colsL_bd (cs := b.cracks) fun c hc => by have := hcr c hc; omega
  obtain ⟨L, hL⟩ : ∃ L, L = colsL b.cracks := ⟨_, rfl⟩
  rw [← hL] at hM hs hN1 hN2 hN3 hN4 hlen hbd
  simp only [← hL] at hy
  clear hL
  refine spec_go (N := 68) (rs := []) (eq := eqs) rfl rfl fun_16 rfl (by kernel_rfl) (by kernel_rfl) (by simp) (by simp) (by simp) (by simp) fun R hR => ?_
  simp (maxSteps := 2000000) only [vcA, ↓vcP, ↓reduceIte, reduceCtorEq, Nat.reduceAdd, Nat.reduceMul, Nat.reduceSub, Nat.reduceLT, Nat.reduceLeDiff, Nat.reduceEqDiff, Nat.reduceBEq, Nat.reduceBNe, Nat.reduceGT, Nat.reduceDiv, Nat.reduceMod, Int.reduceAdd, Int.reduceSub, Int.reduceNeg, Int.reduceLT, Int.reduceLE, Int.reduceEq, Int.reduceToNat, fA]
  obtain ⟨m, hm⟩ : ∃ m, m = b.cracks.length := ⟨_, rfl⟩
  refine goC_loop (α := {i : Nat // i ≤ b.cracks.length}) (fun y => ⟨[(1, .yl 0), (2, .ptr 8 0), (4, .ob 72 y.1), (11, .sl 6 (b.cracks.map crR)), (12, .v (.int .i64 b.cracks.length)), (13, .v (.int .i64 y.1))], [(0, .opq (Φ 0)), (8, .box 54 [.sl 2 (b.bottom.map spR), .sl 2 (b.top.map spR), .v (.int .i64 b.bend), .sl 6 (b.cracks.map crR), .sl 2 (low.map spR), .sl 2 (top.map spR)]), (72, .row 3 1 (((lowsC b.cracks).take y.1).map iR) false)]⟩) (fun y => b.cracks.length - y.1) ⟨0, by omega⟩ [some 16] ?_ ?_
  · simp (maxSteps := 2000000) only [enA, ↓enP, Nat.reduceAdd, Nat.reduceMul, Nat.reduceSub, Nat.reduceLT, Nat.reduceLeDiff, Nat.reduceEqDiff, Nat.reduceBEq, ↓reduceIte, reduceCtorEq, fA]
    rfl
  intro y B hB
  obtain ⟨i, hi⟩ := y
  simp only at hB ⊢
  have ll : (lowsC b.cracks).length = b.cracks.length := by simp [lowsC]
  have tl : ((lowsC b.cracks).take i).length = i := by rw [List.length_take]; omega
  by_cases ci : i < b.cracks.length
  · have pi1 : (i < b.cracks.length) = True := eq_true ci
    have ei : IntKind.i64.wrap ((i : Int) + 1) = ((i + 1 : Nat) : Int) := wrap_id (by omega) (by omega)
    have et : ((lowsC b.cracks).take (i + 1)).map iR = ((lowsC b.cracks).take i).map iR ++ [iR (nth b.cracks i).col.1] := by
      rw [← lowsC_nth ci, List.take_add_one, List.map_append]
      unfold nth
      simp [List.getD_eq_getElem?_getD, ll, ci]
    simp (maxSteps := 2000000) only [vcA, ↓vcP, ↓reduceIte, reduceCtorEq, Nat.reduceAdd, Nat.reduceMul, Nat.reduceSub, Nat.reduceLT, Nat.reduceLeDiff, Nat.reduceEqDiff, Nat.reduceBEq, Nat.reduceBNe, Nat.reduceGT, Nat.reduceDiv, Nat.reduceMod, Int.reduceAdd, Int.reduceSub, Int.reduceNeg, Int.reduceLT, Int.reduceLE, Int.reduceEq, Int.reduceToNat, fA, pi1, crR, tl]
    refine ⟨⟨by omega, by simp only [maxLen]; omega⟩, fun _ => ?_⟩
    refine hB _ ⟨i + 1, by omega⟩ [some 184] (by simp only; omega) rfl ?_
    simp only [et]
    simp (maxSteps := 2000000) only [enA, ↓enP, Nat.reduceAdd, Nat.reduceMul, Nat.reduceSub, Nat.reduceLT, Nat.reduceLeDiff, Nat.reduceEqDiff, Nat.reduceBEq, ↓reduceIte, reduceCtorEq, fA, ei, iR, tl]
  have ie : i = b.cracks.length := by omega
  subst ie
  clear hB
  have pe : (b.cracks.length < b.cracks.length) = False := eq_false (by omega)
  simp (maxSteps := 2000000) only [vcA, ↓vcP, ↓reduceIte, reduceCtorEq, Nat.reduceAdd, Nat.reduceMul, Nat.reduceSub, Nat.reduceLT, Nat.reduceLeDiff, Nat.reduceEqDiff, Nat.reduceBEq, Nat.reduceBNe, Nat.reduceGT, Nat.reduceDiv, Nat.reduceMod, Int.reduceAdd, Int.reduceSub, Int.reduceNeg, Int.reduceLT, Int.reduceLE, Int.reduceEq, Int.reduceToNat, fA, pe]
  have hlo : (lowsC b.cracks).take b.cracks.length = nth L 0 := by
    rw [hN2, List.take_of_length_le (by omega)]
  rw [hlo]
  refine goC_loop (α := {i : Nat // i < M}) (fun y => ⟨[(1, .yl 0), (2, .ptr 8 0), (4, .ob 72 b.cracks.length)], [(0, .opq (Φ y.1)), (8, .box 54 [.sl 2 (b.bottom.map spR), .sl 2 (b.top.map spR), .v (.int .i64 b.bend), .sl 6 (b.cracks.map crR), .sl 2 (low.map spR), .sl 2 (top.map spR)]), (72, .row 3 1 ((nth L y.1).map iR) false)]⟩) (fun y => M - y.1) ⟨0, by omega⟩ [] ?_ ?_
  · simp (maxSteps := 2000000) only [enA, ↓enP, Nat.reduceAdd, Nat.reduceMul, Nat.reduceSub, Nat.reduceLT, Nat.reduceLeDiff, Nat.reduceEqDiff, Nat.reduceBEq, ↓reduceIte, reduceCtorEq, fA]
  intro y B hB
  obtain ⟨i, hi⟩ := y
  simp only at hB ⊢
  have hl := hlen (nth L i) (nth_mem (by omega))
  have hlb := hbd (nth L i) (nth_mem (by omega))
  have hy1 := hy i hi
  simp (maxSteps := 2000000) only [vcA, ↓vcP, ↓reduceIte, reduceCtorEq, Nat.reduceAdd, Nat.reduceMul, Nat.reduceSub, Nat.reduceLT, Nat.reduceLeDiff, Nat.reduceEqDiff, Nat.reduceBEq, Nat.reduceBNe, Nat.reduceGT, Nat.reduceDiv, Nat.reduceMod, Int.reduceAdd, Int.reduceSub, Int.reduceNeg, Int.reduceLT, Int.reduceLE, Int.reduceEq, Int.reduceToNat, fA]
  refine onF_cbL hsh hy1 [72] ?_ ?_
  · simp (maxSteps := 2000000) only [okA, ↓okP, Nat.reduceAdd, Nat.reduceMul, Nat.reduceSub, Nat.reduceLT, Nat.reduceLeDiff, Nat.reduceEqDiff, Nat.reduceBEq, ↓reduceIte, reduceCtorEq]
  by_cases cs : (stop && decide (i + 1 = M)) = true
  · rw [cs]
    simp (maxSteps := 2000000) only [vcA, ↓vcP, ↓reduceIte, reduceCtorEq, Nat.reduceAdd, Nat.reduceMul, Nat.reduceSub, Nat.reduceLT, Nat.reduceLeDiff, Nat.reduceEqDiff, Nat.reduceBEq, Nat.reduceBNe, Nat.reduceGT, Nat.reduceDiv, Nat.reduceMod, Int.reduceAdd, Int.reduceSub, Int.reduceNeg, Int.reduceLT, Int.reduceLE, Int.reduceEq, Int.reduceToNat, fA]
    simp only [Bool.and_eq_true, decide_eq_true_eq] at cs
    rw [cs.2]
    refine hR _ (fin_of1 [] ?_)
    simp (maxSteps := 2000000) only [enA, ↓enP, Nat.reduceAdd, Nat.reduceMul, Nat.reduceSub, Nat.reduceLT, Nat.reduceLeDiff, Nat.reduceEqDiff, Nat.reduceBEq, ↓reduceIte, reduceCtorEq, fA]
  replace cs : (stop && decide (i + 1 = M)) = false := by simpa using cs
  rw [cs]
  have lm : IntKind.i64.wrap ((b.cracks.length : Int) - 1) = (b.cracks.length : Int) - 1 := wrap_id (by omega) (by omega)
  have ll2 : (nth L i).length = (lowsC b.cracks).length := by omega
  simp (maxSteps := 2000000) only [vcA, ↓vcP, ↓reduceIte, reduceCtorEq, Nat.reduceAdd, Nat.reduceMul, Nat.reduceSub, Nat.reduceLT, Nat.reduceLeDiff, Nat.reduceEqDiff, Nat.reduceBEq, Nat.reduceBNe, Nat.reduceGT, Nat.reduceDiv, Nat.reduceMod, Int.reduceAdd, Int.reduceSub, Int.reduceNeg, Int.reduceLT, Int.reduceLE, Int.reduceEq, Int.reduceToNat, fA, hl, lm]
  refine goC_loop (α := {a : Nat // a ≤ b.cracks.length ∧ ∀ j, a ≤ j → j < b.cracks.length → nth (nth L i) j = (nth b.cracks j).col.2}) (fun y => ⟨[(1, .yl 0), (2, .ptr 8 0), (4, .ob 72 b.cracks.length), (7, .v (.int .i64 ((y.1 : Int) - 1)))], [(0, .opq (Φ (i + 1))), (8, .box 54 [.sl 2 (b.bottom.map spR), .sl 2 (b.top.map spR), .v (.int .i64 b.bend), .sl 6 (b.cracks.map crR), .sl 2 (low.map spR), .sl 2 (top.map spR)]), (72, .row 3 1 ((curC (nth L i) (lowsC b.cracks) y.1).map iR) false)]⟩) (fun y => y.1) ⟨b.cracks.length, Nat.le_refl _, fun j h1 h2 => by omega⟩ [] ?_ ?_
  · have := curC_all ll2
    rw [hl] at this
    rw [this]
    simp (maxSteps := 2000000) only [enA, ↓enP, Nat.reduceAdd, Nat.reduceMul, Nat.reduceSub, Nat.reduceLT, Nat.reduceLeDiff, Nat.reduceEqDiff, Nat.reduceBEq, ↓reduceIte, reduceCtorEq, fA]
  intro y B4 hB4
  obtain ⟨a, ha, hhi⟩ := y
  simp only at hB4 ⊢
  have cl : (curC (nth L i) (lowsC b.cracks) a).length = b.cracks.length := by rw [curC_len ll2 (by omega)]; exact hl
  cases a with
  | zero =>
    have p0 : (((0 : Nat) : Int) - 1 ≥ 0) = False := eq_false (by omega)
    have p1 : (((0 : Nat) : Int) - 1 < 0) = True := eq_true (by omega)
    have iM : i + 1 = M := by
      apply Decidable.byContradiction
      intro hne
      obtain ⟨j, nx⟩ := hN3 i (by omega)
      exact nx.ne (hhi j (by omega) nx.lt)
    simp (maxSteps := 2000000) only [vcA, ↓vcP, ↓reduceIte, reduceCtorEq, Nat.reduceAdd, Nat.reduceMul, Nat.reduceSub, Nat.reduceLT, Nat.reduceLeDiff, Nat.reduceEqDiff, Nat.reduceBEq, Nat.reduceBNe, Nat.reduceGT, Nat.reduceDiv, Nat.reduceMod, Int.reduceAdd, Int.reduceSub, Int.reduceNeg, Int.reduceLT, Int.reduceLE, Int.reduceEq, Int.reduceToNat, fA, p0, p1]
    rw [iM]
    refine ⟨fun h => absurd h (by decide), fun _ => ?_⟩
    refine hR _ (fin_of1 [] ?_)
    simp (maxSteps := 2000000) only [enA, ↓enP, Nat.reduceAdd, Nat.reduceMul, Nat.reduceSub, Nat.reduceLT, Nat.reduceLeDiff, Nat.reduceEqDiff, Nat.reduceBEq, ↓reduceIte, reduceCtorEq, fA]
  | succ a =>
    have ea : (((a + 1 : Nat) : Int) - 1) = (a : Int) := by omega
    simp only [ea]
    have ca : a < b.cracks.length := by omega
    have cn := curC_nth (l := nth L i) (lo := lowsC b.cracks) (a := a) (by omega)
    have lb := hlb _ (nth_mem (l := nth L i) (i := a) (by omega))
    have g0 : ((a : Int) ≥ 0) = True := eq_true (by omega)
    have g1 : (a < b.cracks.length) = True := eq_true ca
    have g2 : ((a : Int) < 0) = False := eq_false (by omega)
    have g3 : IntKind.i64.wrap ((a : Int) - 1) = (a : Int) - 1 := wrap_id (by omega) (by omega)
    have g4 : IntKind.i64.wrap (nth (nth L i) a + 1) = nth (nth L i) a + 1 := wrap_id (by omega) (by omega)
    by_cases ce : nth (nth L i) a = (nth b.cracks a).col.2
    · have e1 : (nth (nth L i) a == (nth b.cracks a).col.2) = true := by simpa using ce
      simp (maxSteps := 2000000) only [vcA, ↓vcP, ↓reduceIte, reduceCtorEq, Nat.reduceAdd, Nat.reduceMul, Nat.reduceSub, Nat.reduceLT, Nat.reduceLeDiff, Nat.reduceEqDiff, Nat.reduceBEq, Nat.reduceBNe, Nat.reduceGT, Nat.reduceDiv, Nat.reduceMod, Int.reduceAdd, Int.reduceSub, Int.reduceNeg, Int.reduceLT, Int.reduceLE, Int.reduceEq, Int.reduceToNat, fA, g0, g1, g2, g3, cl, cn, e1, crR, iR]
      rw [set_rowI (by omega), ← lowsC_nth ca, curC_back ll2 (by omega)]
      refine hB4 _ ⟨a, by omega, fun j h1 h2 => ?_⟩ [] (by simp only; omega) rfl ?_
      · by_cases e : j = a
        · rw [e]; exact ce
        · exact hhi j (by omega) h2
      · simp (maxSteps := 2000000) only [enA, ↓enP, Nat.reduceAdd, Nat.reduceMul, Nat.reduceSub, Nat.reduceLT, Nat.reduceLeDiff, Nat.reduceEqDiff, Nat.reduceBEq, ↓reduceIte, reduceCtorEq, fA]
    · have e1 : (nth (nth L i) a == (nth b.cracks a).col.2) = false := by simpa using ce
      simp (maxSteps := 2000000) only [vcA, ↓vcP, ↓reduceIte, reduceCtorEq, Nat.reduceAdd, Nat.reduceMul, Nat.reduceSub, Nat.reduceLT, Nat.reduceLeDiff, Nat.reduceEqDiff, Nat.reduceBEq, Nat.reduceBNe, Nat.reduceGT, Nat.reduceDiv, Nat.reduceMod, Int.reduceAdd, Int.reduceSub, Int.reduceNeg, Int.reduceLT, Int.reduceLE, Int.reduceEq, Int.reduceToNat, fA, g0, g1, g2, g3, g4, cl, cn, e1, crR, iR]
      have iM : i + 1 < M := by
        apply Decidable.byContradiction
        intro hne
        have iM : i + 1 = M := by omega
        have st : stop = false := by
          cases stop with
          | false => rfl
          | true => rw [iM] at cs; simp at cs
        have := hs st
        have iN : i = N := by omega
        apply ce
        rw [iN, hN4]
        exact highs_nth ca
      obtain ⟨j, nx⟩ := hN3 i (by omega)
      have ja : j = a := by
        rcases Nat.lt_trichotomy j a with h | h | h
        · exact absurd (nx.hi a h ca) ce
        · exact h
        · exact absurd (hhi j (by omega) nx.lt) nx.ne
      subst ja
      rw [set_rowI (by omega), curC_set ll2 (by omega), ← nx.eq]
      refine hB _ ⟨i + 1, iM⟩ [] (by simp only; omega) rfl ?_
      simp (maxSteps := 2000000) only [enA, ↓enP, Nat.reduceAdd, Nat.reduceMul, Nat.reduceSub, Nat.reduceLT, Nat.reduceLeDiff, Nat.reduceEqDiff, Nat.reduceBEq, ↓reduceIte, reduceCtorEq, fA]
end Go.Proofs.Ytdgeocjchnandaa.Ab.T01
namespace Go.Proofs.Ytdgeocjchnandaa.Ab.T01
open Go Go.RowKit
set_option linter.unusedSimpArgs false
set_option linter.unusedVariables false
set_option maxRecDepth 100000
def bestSp (c : Crk) (n : Int) : Spo := ⟨(n, n), (c.frm.2, c.to.1)⟩
def bestSpoils (cs : List Crk) (l : List Int) : List Spo := (List.range cs.length).map fun i => bestSp (nth cs i) (nth l i)
def bestV (low top : List Sp) (cs : List Crk) (l : List Int) : Vw := ⟨low.map (·.1), top.map (·.2), bestSpoils cs l⟩
theorem best1_spec (b : Bl) (low top : List Sp) (l : List Int) (h1 : low.length < 1000) (h2 : top.length < 1000) (h3 : b.cracks.length < 1000) (h4 : l.length = b.cracks.length) : SpecF Try.prog 17 [.agg [.sl 2 (b.bottom.map spR), .sl 2 (b.top.map spR), .v (.int .i64 b.bend), .sl 6 (b.cracks.map crR), .sl 2 (low.map spR), .sl 2 (top.map spR)], .sl 1 (l.map iR)]
    (.agg [.ob 0 low.length, .ob 1 top.length, .ob 2 b.cracks.length]) [.row 3 1 ((bestV low top b.cracks l).bottom.map iR) false, .row 3 1 ((bestV low top b.cracks l).top.map iR) false, .row 90 4 ((bestV low top b.cracks l).spoils.map spoR) false] := by
  refine spec_go (N := 48) (rs := [.cell 4 59]) (eq := eqs) rfl rfl fun_17 rfl (by kernel_rfl) (by kernel_rfl) (by simp) (by simp) (by simp) (by simp) fun R hR => ?_
  simp (maxSteps := 2000000) only [vcA, ↓vcP, ↓reduceIte, reduceCtorEq, Nat.reduceAdd, Nat.reduceMul, Nat.reduceSub, Nat.reduceLT, Nat.reduceLeDiff, Nat.reduceEqDiff, Nat.reduceBEq, Nat.reduceBNe, Nat.reduceGT, Nat.reduceDiv, Nat.reduceMod, Int.reduceAdd, Int.reduceSub, Int.reduceNeg, Int.reduceLT, Int.reduceLE, Int.reduceEq, Int.reduceToNat, fA]
  refine onF_call (edges_spec low_spec low (by omega)) [] [] [] ?_ ?_
  · simp (maxSteps := 2000000) only [okA, ↓okP, Nat.reduceAdd, Nat.reduceMul, Nat.reduceSub, Nat.reduceLT, Nat.reduceLeDiff, Nat.reduceEqDiff, Nat.reduceBEq, ↓reduceIte, reduceCtorEq]
  simp (maxSteps := 2000000) only [vcA, ↓vcP, ↓reduceIte, reduceCtorEq, Nat.reduceAdd, Nat.reduceMul, Nat.reduceSub, Nat.reduceLT, Nat.reduceLeDiff, Nat.reduceEqDiff, Nat.reduceBEq, Nat.reduceBNe, Nat.reduceGT, Nat.reduceDiv, Nat.reduceMod, Int.reduceAdd, Int.reduceSub, Int.reduceNeg, Int.reduceLT, Int.reduceLE, Int.reduceEq, Int.reduceToNat, fA]
  repeat (first | refine ⟨by kernel_rfl, ?_⟩ | refine ⟨⟨by kernel_rfl, by kernel_rfl⟩, ?_⟩ | refine ⟨⟨by kernel_rfl, by kernel_rfl, by kernel_rfl⟩, ?_⟩ | refine ⟨⟨by kernel_rfl, by kernel_rfl, by kernel_rfl, by kernel_rfl⟩, ?_⟩ | refine ⟨⟨by kernel_rfl, by kernel_rfl, by kernel_rfl, by kernel_rfl, by kernel_rfl⟩, ?_⟩ | refine ⟨⟨by kernel_rfl, by kernel_rfl, by kernel_rfl, by kernel_rfl, by kernel_rfl, by kernel_rfl⟩, ?_⟩ | refine ⟨⟨by kernel_rfl, by kernel_rfl, by kernel_rfl, by kernel_rfl, by kernel_rfl, by kernel_rfl, by kernel_rfl⟩, ?_⟩ | refine ⟨⟨by kernel_rfl, by kernel_rfl, by kernel_rfl, by kernel_rfl, by kernel_rfl, by kernel_rfl, by kernel_rfl, by kernel_rfl⟩, ?_⟩ | refine ⟨⟨by kernel_rfl, by kernel_rfl, by kernel_rfl, by kernel_rfl, by kernel_rfl, by kernel_rfl, by kernel_rfl, by kernel_rfl, by kernel_rfl⟩, ?_⟩ | refine ⟨⟨by kernel_rfl, by kernel_rfl, by kernel_rfl, by kernel_rfl, by kernel_rfl, by kernel_rfl, by kernel_rfl, by kernel_rfl, by kernel_rfl, by kernel_rfl⟩, ?_⟩ | refine ⟨⟨by kernel_rfl, by kernel_rfl, by kernel_rfl, by kernel_rfl, by kernel_rfl, by kernel_rfl, by kernel_rfl, by kernel_rfl, by kernel_rfl, by kernel_rfl, by kernel_rfl⟩, ?_⟩ | refine ⟨⟨by kernel_rfl, by kernel_rfl, by kernel_rfl, by kernel_rfl, by kernel_rfl, by kernel_rfl, by kernel_rfl, by kernel_rfl, by kernel_rfl, by kernel_rfl, by kernel_rfl, by kernel_rfl⟩, ?_⟩ | refine ⟨⟨by kernel_rfl, by kernel_rfl, by kernel_rfl, by kernel_rfl, by kernel_rfl, by kernel_rfl, by kernel_rfl, by kernel_rfl, by kernel_rfl, by kernel_rfl, by kernel_rfl, by kernel_rfl, by kernel_rfl⟩, ?_⟩)
  refine onF_call (edges_spec high_spec top (by omega)) [] [] [] ?_ ?_
  · simp (maxSteps := 2000000) only [okA, ↓okP, Nat.reduceAdd, Nat.reduceMul, Nat.reduceSub, Nat.reduceLT, Nat.reduceLeDiff, Nat.reduceEqDiff, Nat.reduceBEq, ↓reduceIte, reduceCtorEq]
  simp (maxSteps := 2000000) only [vcA, ↓vcP, ↓reduceIte, reduceCtorEq, Nat.reduceAdd, Nat.reduceMul, Nat.reduceSub, Nat.reduceLT, Nat.reduceLeDiff, Nat.reduceEqDiff, Nat.reduceBEq, Nat.reduceBNe, Nat.reduceGT, Nat.reduceDiv, Nat.reduceMod, Int.reduceAdd, Int.reduceSub, Int.reduceNeg, Int.reduceLT, Int.reduceLE, Int.reduceEq, Int.reduceToNat, fA]
  repeat (first | refine ⟨by kernel_rfl, ?_⟩ | refine ⟨⟨by kernel_rfl, by kernel_rfl⟩, ?_⟩ | refine ⟨⟨by kernel_rfl, by kernel_rfl, by kernel_rfl⟩, ?_⟩ | refine ⟨⟨by kernel_rfl, by kernel_rfl, by kernel_rfl, by kernel_rfl⟩, ?_⟩ | refine ⟨⟨by kernel_rfl, by kernel_rfl, by kernel_rfl, by kernel_rfl, by kernel_rfl⟩, ?_⟩ | refine ⟨⟨by kernel_rfl, by kernel_rfl, by kernel_rfl, by kernel_rfl, by kernel_rfl, by kernel_rfl⟩, ?_⟩ | refine ⟨⟨by kernel_rfl, by kernel_rfl, by kernel_rfl, by kernel_rfl, by kernel_rfl, by kernel_rfl, by kernel_rfl⟩, ?_⟩ | refine ⟨⟨by kernel_rfl, by kernel_rfl, by kernel_rfl, by kernel_rfl, by kernel_rfl, by kernel_rfl, by kernel_rfl, by kernel_rfl⟩, ?_⟩ | refine ⟨⟨by kernel_rfl, by kernel_rfl, by kernel_rfl, by kernel_rfl, by kernel_rfl, by kernel_rfl, by kernel_rfl, by kernel_rfl, by kernel_rfl⟩, ?_⟩ | refine ⟨⟨by kernel_rfl, by kernel_rfl, by kernel_rfl, by kernel_rfl, by kernel_rfl, by kernel_rfl, by kernel_rfl, by kernel_rfl, by kernel_rfl, by kernel_rfl⟩, ?_⟩ | refine ⟨⟨by kernel_rfl, by kernel_rfl, by kernel_rfl, by kernel_rfl, by kernel_rfl, by kernel_rfl, by kernel_rfl, by kernel_rfl, by kernel_rfl, by kernel_rfl, by kernel_rfl⟩, ?_⟩ | refine ⟨⟨by kernel_rfl, by kernel_rfl, by kernel_rfl, by kernel_rfl, by kernel_rfl, by kernel_rfl, by kernel_rfl, by kernel_rfl, by kernel_rfl, by kernel_rfl, by kernel_rfl, by kernel_rfl⟩, ?_⟩ | refine ⟨⟨by kernel_rfl, by kernel_rfl, by kernel_rfl, by kernel_rfl, by kernel_rfl, by kernel_rfl, by kernel_rfl, by kernel_rfl, by kernel_rfl, by kernel_rfl, by kernel_rfl, by kernel_rfl, by kernel_rfl⟩, ?_⟩)
  refine goC_loop (α := {i : Nat // i ≤ b.cracks.length}) (fun x => ⟨[(1, .sl 1 (l.map iR)), (4, .ptr 16 0), (5, .ptr 80 0), (17, .sl 6 (b.cracks.map crR)), (18, .v (.int .i64 b.cracks.length)), (19, .v (.int .i64 x.1))], [(16, .box 59 [.v (.slice none 0 0), .v (.slice none 0 0), .v (.slice none 0 0)]), (40, .row 3 1 ((low.map fun s => s.1).map iR) false), (64, .row 3 1 ((top.map fun s => s.2).map iR) false), (80, .box 59 [.ob 40 low.length, .ob 64 top.length, .ob 136 x.1]), (136, .row 90 4 (((List.range x.1).map fun i => bestSp (nth b.cracks i) (nth l i)).map spoR) false)]⟩) (fun x => b.cracks.length - x.1) ⟨0, by omega⟩ [none] ?_ ?_
  · simp (maxSteps := 2000000) only [enA, ↓enP, Nat.reduceAdd, Nat.reduceMul, Nat.reduceSub, Nat.reduceLT, Nat.reduceLeDiff, Nat.reduceEqDiff, Nat.reduceBEq, ↓reduceIte, reduceCtorEq, fA]
    exact ⟨rfl, rfl⟩
  intro x B hB
  obtain ⟨i, hi⟩ := x
  simp only at hB ⊢
  have tl : ((List.range i).map fun i => bestSp (nth b.cracks i) (nth l i)).length = i := by simp
  by_cases ci : i < b.cracks.length
  · have pi : (i < b.cracks.length) = True := eq_true ci
    have ei : IntKind.i64.wrap ((i : Int) + 1) = ((i + 1 : Nat) : Int) := wrap_id (by omega) (by omega)
    simp (maxSteps := 2000000) only [vcA, ↓vcP, ↓reduceIte, reduceCtorEq, Nat.reduceAdd, Nat.reduceMul, Nat.reduceSub, Nat.reduceLT, Nat.reduceLeDiff, Nat.reduceEqDiff, Nat.reduceBEq, Nat.reduceBNe, Nat.reduceGT, Nat.reduceDiv, Nat.reduceMod, Int.reduceAdd, Int.reduceSub, Int.reduceNeg, Int.reduceLT, Int.reduceLE, Int.reduceEq, Int.reduceToNat, fA, pi, h4, crR, iR, tl]
    refine ⟨⟨by omega, by simp only [maxLen]; omega⟩, fun _ => ?_⟩
    repeat (first | refine ⟨by kernel_rfl, ?_⟩ | refine ⟨⟨by kernel_rfl, by kernel_rfl⟩, ?_⟩ | refine ⟨⟨by kernel_rfl, by kernel_rfl, by kernel_rfl⟩, ?_⟩ | refine ⟨⟨by kernel_rfl, by kernel_rfl, by kernel_rfl, by kernel_rfl⟩, ?_⟩ | refine ⟨⟨by kernel_rfl, by kernel_rfl, by kernel_rfl, by kernel_rfl, by kernel_rfl⟩, ?_⟩ | refine ⟨⟨by kernel_rfl, by kernel_rfl, by kernel_rfl, by kernel_rfl, by kernel_rfl, by kernel_rfl⟩, ?_⟩ | refine ⟨⟨by kernel_rfl, by kernel_rfl, by kernel_rfl, by kernel_rfl, by kernel_rfl, by kernel_rfl, by kernel_rfl⟩, ?_⟩ | refine ⟨⟨by kernel_rfl, by kernel_rfl, by kernel_rfl, by kernel_rfl, by kernel_rfl, by kernel_rfl, by kernel_rfl, by kernel_rfl⟩, ?_⟩ | refine ⟨⟨by kernel_rfl, by kernel_rfl, by kernel_rfl, by kernel_rfl, by kernel_rfl, by kernel_rfl, by kernel_rfl, by kernel_rfl, by kernel_rfl⟩, ?_⟩ | refine ⟨⟨by kernel_rfl, by kernel_rfl, by kernel_rfl, by kernel_rfl, by kernel_rfl, by kernel_rfl, by kernel_rfl, by kernel_rfl, by kernel_rfl, by kernel_rfl⟩, ?_⟩ | refine ⟨⟨by kernel_rfl, by kernel_rfl, by kernel_rfl, by kernel_rfl, by kernel_rfl, by kernel_rfl, by kernel_rfl, by kernel_rfl, by kernel_rfl, by kernel_rfl, by kernel_rfl⟩, ?_⟩ | refine ⟨⟨by kernel_rfl, by kernel_rfl, by kernel_rfl, by kernel_rfl, by kernel_rfl, by kernel_rfl, by kernel_rfl, by kernel_rfl, by kernel_rfl, by kernel_rfl, by kernel_rfl, by kernel_rfl⟩, ?_⟩ | refine ⟨⟨by kernel_rfl, by kernel_rfl, by kernel_rfl, by kernel_rfl, by kernel_rfl, by kernel_rfl, by kernel_rfl, by kernel_rfl, by kernel_rfl, by kernel_rfl, by kernel_rfl, by kernel_rfl, by kernel_rfl⟩, ?_⟩)
    refine hB _ ⟨i + 1, by omega⟩ [some 384] (by simp only; omega) rfl ?_
    simp only [List.range_succ, List.map_append, List.map_cons, List.map_nil]
    simp (maxSteps := 2000000) only [enA, ↓enP, Nat.reduceAdd, Nat.reduceMul, Nat.reduceSub, Nat.reduceLT, Nat.reduceLeDiff, Nat.reduceEqDiff, Nat.reduceBEq, ↓reduceIte, reduceCtorEq, fA, ei]
    rfl
  have ie : i = b.cracks.length := by omega
  subst ie
  have pe : (b.cracks.length < b.cracks.length) = False := eq_false (by omega)
  simp (maxSteps := 2000000) only [vcA, ↓vcP, ↓reduceIte, reduceCtorEq, Nat.reduceAdd, Nat.reduceMul, Nat.reduceSub, Nat.reduceLT, Nat.reduceLeDiff, Nat.reduceEqDiff, Nat.reduceBEq, Nat.reduceBNe, Nat.reduceGT, Nat.reduceDiv, Nat.reduceMod, Int.reduceAdd, Int.reduceSub, Int.reduceNeg, Int.reduceLT, Int.reduceLE, Int.reduceEq, Int.reduceToNat, fA, pe]
  refine hR _ (fin_of1 [some 40, some 64, some 136] ?_)
  simp (maxSteps := 2000000) only [enA, ↓enP, Nat.reduceAdd, Nat.reduceMul, Nat.reduceSub, Nat.reduceLT, Nat.reduceLeDiff, Nat.reduceEqDiff, Nat.reduceBEq, ↓reduceIte, reduceCtorEq, fA]
  exact ⟨rfl, rfl, rfl⟩
theorem best_spec (b : Bl) (low top : List Sp) (l : List Int) (h1 : low.length < 1000) (h2 : top.length < 1000) (h3 : b.cracks.length < 1000) (h4 : l.length = b.cracks.length) : SpecF Try.prog 17 [.agg [.sl 2 (b.bottom.map spR), .sl 2 (b.top.map spR), .v (.int .i64 b.bend), .sl 6 (b.cracks.map crR), .sl 2 (low.map spR), .sl 2 (top.map spR)], .sl 1 (l.map iR)]
    (.agg [.sl 1 ((bestV low top b.cracks l).bottom.map iR), .sl 1 ((bestV low top b.cracks l).top.map iR), .sl 4 ((bestV low top b.cracks l).spoils.map spoR)]) [] := (best1_spec b low top l h1 h2 h3 h4).frz
end Go.Proofs.Ytdgeocjchnandaa.Ab.T01
