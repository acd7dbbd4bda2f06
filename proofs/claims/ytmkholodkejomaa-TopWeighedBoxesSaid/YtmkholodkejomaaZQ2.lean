/- The ways of boxes: plain; what a way is made of. -/
import Derived.Test.YtmkholodkejomaaZQ1
namespace Go.Proofs.Ytmkholodkejomaa.Ab.T08
open Go Go.RowKit
set_option linter.unusedVariables false
set_option linter.unusedSimpArgs false
set_option maxRecDepth 100000
theorem ca_ct (C : Nat → Int) {c : Nat} (h : c < 3) : List.take 7 (List.drop (c * 7) (caA C)) = ctA fun f => C (c * 7 + f) := by
  rcases (by omega : c = 0 ∨ c = 1 ∨ c = 2) with rfl | rfl | rfl <;> rfl
theorem ca_0 (C : Nat → Int) {c : Nat} (h : c < 3) : (List.take 1 (List.drop (c * 7) (caA C))).headD .un = .v (.int .i64 (C (c * 7))) := by
  rcases (by omega : c = 0 ∨ c = 1 ∨ c = 2) with rfl | rfl | rfl <;> rfl
theorem ca_put0 (C : Nat → Int) {c : Nat} (h : c < 3) (x : Int) : put (caA C) (c * 7) [.v (.int .i64 x)] = caA fun j => if j = c * 7 then x else C j := by
  rcases (by omega : c = 0 ∨ c = 1 ∨ c = 2) with rfl | rfl | rfl <;> rfl
theorem ca_sm (C : Nat → Int) {c : Nat} (h : c < 3) : List.take 6 (List.drop (c * 7 + 1) (caA C)) = smA fun f => C (c * 7 + 1 + f) := by
  rcases (by omega : c = 0 ∨ c = 1 ∨ c = 2) with rfl | rfl | rfl <;> rfl
theorem ca_putS (C : Nat → Int) {c : Nat} (h : c < 3) (S : Nat → Int) : put (caA C) (c * 7 + 1) (smA S) = caA fun j => if c * 7 + 1 ≤ j ∧ j < c * 7 + 7 then S (j - (c * 7 + 1)) else C j := by
  rcases (by omega : c = 0 ∨ c = 1 ∨ c = 2) with rfl | rfl | rfl <;> rfl
theorem ca_zero (C : Nat → Int) : put [AV.v (.int .i64 0), AV.v (.int .i64 0), AV.v (.int .i64 0), AV.v (.int .i64 0), AV.v (.int .i64 0), AV.v (.int .i64 0), AV.v (.int .i64 0), AV.v (.int .i64 0), AV.v (.int .i64 0), AV.v (.int .i64 0), AV.v (.int .i64 0), AV.v (.int .i64 0), AV.v (.int .i64 0), AV.v (.int .i64 0), AV.v (.int .i64 0), AV.v (.int .i64 0), AV.v (.int .i64 0), AV.v (.int .i64 0), AV.v (.int .i64 0), AV.v (.int .i64 0), AV.v (.int .i64 0)] 0 (caA C) = caA C := rfl
theorem ctA_low (O : Nat → Option Obj) (fr : List Nat) (ρ : Nat → Option (Option Nat)) (X : Nat → Int) : eqrL (eqr1 ρ) (List.map (low1 O fr) (ctA X)) (ctA X) = True := eq_true (by simp [ctA, low1, eqrL, eqr1, eqr0])
theorem smA_low (O : Nat → Option Obj) (fr : List Nat) (ρ : Nat → Option (Option Nat)) (X : Nat → Int) : eqrL (eqr1 ρ) (List.map (low1 O fr) (smA X)) (smA X) = True := eq_true (by simp [smA, low1, eqrL, eqr1, eqr0])
theorem caA_low (O : Nat → Option Obj) (fr : List Nat) (ρ : Nat → Option (Option Nat)) (X : Nat → Int) : eqrL (eqr1 ρ) (List.map (low1 O fr) (caA X)) (caA X) = True := eq_true (by simp [caA, low1, eqrL, eqr1, eqr0])
theorem smA_id (X : Nat → Int) : List.flatMap id1 (smA X) = [] := by simp [smA, id1, idA]
theorem ctA_id (X : Nat → Int) : List.flatMap id1 (ctA X) = [] := by simp [ctA, id1, idA]
theorem caA_id (X : Nat → Int) : List.flatMap id1 (caA X) = [] := by simp [caA, id1, idA]
theorem smA_ren (ρ : Nat → Nat) (X : Nat → Int) : List.map (ren1 ρ) (smA X) = smA X := by simp [smA, ren1, ren0]
theorem caA_ren (ρ : Nat → Nat) (X : Nat → Int) : List.map (ren1 ρ) (caA X) = caA X := by simp [caA, ren1, ren0]
/-- What the carts hold when the first boxes are whose a list says. -/
def cellN (l : Ld) (w : List Int) : Nat → Nat → Int
  | 0, _ => 0
  | i + 1, j => cellN l w i j + if nth w i = ((j / 7 : Nat) : Int) then addB (nth l.boxes i) (j % 7) else 0
def cellW (l : Ld) (w : List Int) : Nat → Int := cellN l w w.length
theorem nth_appL {α : Type} [Inhabited α] {a b : List α} {i : Nat} (h : i < a.length) : nth (a ++ b) i = nth a i := by
  show (a ++ b).getD i default = a.getD i default
  rw [List.getD_eq_getElem?_getD, List.getD_eq_getElem?_getD, List.getElem?_append_left h]
theorem nth_appR {α : Type} [Inhabited α] (a b : List α) (i : Nat) : nth (a ++ b) (a.length + i) = nth b i := by
  show (a ++ b).getD (a.length + i) default = b.getD i default
  rw [List.getD_eq_getElem?_getD, List.getD_eq_getElem?_getD, List.getElem?_append_right (by omega), show a.length + i - a.length = i by omega]
theorem cellN_app (l : Ld) (w v : List Int) (j : Nat) : ∀ i, i ≤ w.length → cellN l (w ++ v) i j = cellN l w i j
  | 0, _ => rfl
  | i + 1, h => by rw [cellN, cellN, cellN_app l w v j i (by omega), nth_appL (by omega)]
theorem cellW_succ (l : Ld) (w : List Int) (c : Int) (j : Nat) : cellW l (w ++ [c]) j = cellW l w j + if c = ((j / 7 : Nat) : Int) then addB (nth l.boxes w.length) (j % 7) else 0 := by
  unfold cellW
  rw [List.length_append, List.length_cons, List.length_nil, Nat.zero_add, cellN, cellN_app l w [c] j _ (Nat.le_refl _)]
  have : nth (w ++ [c]) w.length = c := by have := nth_appR w [c] 0; rw [Nat.add_zero] at this; rw [this]; rfl
  rw [this]
theorem next_cells (l : Ld) (w : List Int) (c : Nat) : (fun j => if c * 7 + 1 ≤ j ∧ j < c * 7 + 7 then plusS (fun f => cellW l w (c * 7 + 1 + f)) (nth l.boxes w.length) (nth l.boxes w.length).length (j - (c * 7 + 1)) else (if j = c * 7 then cellW l w (c * 7) + 1 else cellW l w j)) = cellW l (w ++ [(c : Int)]) := by
  funext j
  rw [cellW_succ]
  by_cases h1 : c * 7 + 1 ≤ j ∧ j < c * 7 + 7
  · have e1 : j / 7 = c := by omega
    have e2 : j % 7 = j - (c * 7 + 1) + 1 := by omega
    rw [if_pos h1, if_pos (by omega)]
    unfold plusS
    simp only
    rw [show c * 7 + 1 + (j - (c * 7 + 1)) = j by omega, ← e2]
    congr 1
    by_cases h2 : (j - (c * 7 + 1)) / 2 < (nth l.boxes w.length).length
    · rw [if_pos h2]
    · rw [if_neg h2]
      unfold addB
      rw [if_neg (by omega), if_neg (by omega)]
  · rw [if_neg h1]
    by_cases h2 : j = c * 7
    · rw [if_pos h2, if_pos (by omega)]
      unfold addB
      rw [if_pos (by omega), h2]
    · rw [if_neg h2, if_neg (by omega)]
      omega
theorem cellN_bd {l : Ld} {K : Nat} (hl : l.Ok K) (w : List Int) (j : Nat) : ∀ i, i ≤ l.boxes.length → 0 ≤ cellN l w i j ∧ cellN l w i j ≤ 1000 * (i : Int)
  | 0, _ => by simp [cellN]
  | i + 1, h => by
    have ih := cellN_bd hl w j i (by omega)
    rw [cellN]
    have : 0 ≤ addB (nth l.boxes i) (j % 7) ∧ addB (nth l.boxes i) (j % 7) ≤ 1000 := by
      unfold addB
      split
      · omega
      · split
        · have := hl.bs _ (nth_mem (l := l.boxes) (i := i) (by omega)) _ (nth_mem (by assumption))
          split <;> omega
        · omega
    split <;> omega
theorem cellW_bd {l : Ld} {K : Nat} (hl : l.Ok K) {w : List Int} (hw : w.length ≤ l.boxes.length) (j : Nat) : 0 ≤ cellW l w j ∧ cellW l w j ≤ 8000 := by
  have := cellN_bd hl w j w.length hw
  have := hl.nb
  unfold cellW
  omega
def cartW (l : Ld) (w : List Int) (c : Nat) : Nat → Int := fun f => cellW l w (c * 7 + f)
/-- All ways that begin with a list, by how many boxes are left. -/
def mayAll (l : Ld) (w : List Int) (n : Nat) : Bool := (List.range n).all fun c => mayB (cartW l w c) (nth l.bills c)
def stepW (l : Ld) (f : List Int → List (List Int)) (w : List Int) (c : Nat) : List (List Int) := if overB (cartW l (w ++ [(c : Int)]) c) (nth l.bills c) = true then [] else f (w ++ [(c : Int)])
def waysF (l : Ld) : Nat → List Int → List (List Int)
  | 0, w => if mayAll l w l.bills.length = true then [w] else []
  | r + 1, w => (List.range l.bills.length).flatMap fun c => stepW l (waysF l r) w c
def wT (l : Ld) (f : List Int → List (List Int)) (w : List Int) (n : Nat) : List (List Int) := (List.range n).flatMap fun c => stepW l f w c
theorem wT_succ (l : Ld) (f : List Int → List (List Int)) (w : List Int) (n : Nat) : wT l f w (n + 1) = wT l f w n ++ stepW l f w n := by
  unfold wT
  rw [List.range_succ, List.flatMap_append]
  simp
theorem wT_pre (l : Ld) (f : List Int → List (List Int)) (w : List Int) {c n : Nat} (h : c ≤ n) : ∃ t, wT l f w n = wT l f w c ++ t := by
  induction n with
  | zero => obtain rfl : c = 0 := by omega
            exact ⟨[], by simp⟩
  | succ n ih =>
    by_cases e : c = n + 1
    · subst e; exact ⟨[], by simp⟩
    · obtain ⟨t, ht⟩ := ih (by omega)
      exact ⟨t ++ stepW l f w n, by rw [wT_succ, ht, List.append_assoc]⟩
/-- The rounds of one carrier among all rounds. -/
theorem wT_at (l : Ld) (f : List Int → List (List Int)) (w : List Int) {c n : Nat} (h : c < n) {j : Nat} (hj : j < (stepW l f w c).length) : (wT l f w c).length + j < (wT l f w n).length ∧ nth (wT l f w n) ((wT l f w c).length + j) = nth (stepW l f w c) j := by
  obtain ⟨t, ht⟩ := wT_pre l f w (show c + 1 ≤ n by omega)
  rw [ht, wT_succ, List.append_assoc]
  refine ⟨by simp only [List.length_append]; omega, ?_⟩
  rw [nth_appR, nth_appL hj]
theorem mayAll_succ (l : Ld) (w : List Int) (n : Nat) : mayAll l w (n + 1) = (mayAll l w n && mayB (cartW l w n) (nth l.bills n)) := by simp [mayAll, List.range_succ]
theorem mayAll_le {l : Ld} {w : List Int} {k n : Nat} (h : k ≤ n) (h1 : mayAll l w n = true) : mayAll l w k = true := by
  unfold mayAll at *
  rw [List.all_eq_true] at *
  intro j hj
  exact h1 j (List.mem_range.2 (by have := List.mem_range.1 hj; omega))
theorem cloneW0_spec (l : List Int) (hl : l.length < 1000000) : SpecG Try.prog 72 [.sl 1 (l.map iR)] [] (.ob 0 l.length) [.row 3 1 (l.map iR) false] := by
  refine spec_go (N := 8) (rs := [.tmp 2]) (eq := eqs) rfl rfl fun_72 rfl (by kernel_rfl) (by kernel_rfl) (by simp) (by simp) (by simp) (by simp) fun R hR => ?_
  simp (maxSteps := 2000000) only [vcA, ↓vcP, ↓reduceIte, reduceCtorEq, Nat.reduceAdd, Nat.reduceMul, Nat.reduceSub, Nat.reduceLT, Nat.reduceLeDiff, Nat.reduceEqDiff, Nat.reduceBEq, Nat.reduceBNe, Nat.reduceGT, Nat.reduceDiv, Nat.reduceMod, Int.reduceAdd, Int.reduceSub, Int.reduceNeg, Int.reduceLT, Int.reduceLE, Int.reduceEq, Int.reduceToNat, fA]
  refine ⟨fun h => hR _ (fin_of1 [none] ?_), ⟨⟨by omega, by simp only [maxLen]; omega⟩, fun _ => hR _ (fin_of1 [some 48] ?_)⟩⟩
  · have h : l = [] := by simpa using h
    subst h
    simp (maxSteps := 2000000) only [enA, ↓enP, Nat.reduceAdd, Nat.reduceMul, Nat.reduceSub, Nat.reduceLT, Nat.reduceLeDiff, Nat.reduceEqDiff, Nat.reduceBEq, ↓reduceIte, reduceCtorEq, fA]
  · simp (maxSteps := 2000000) only [enA, ↓enP, Nat.reduceAdd, Nat.reduceMul, Nat.reduceSub, Nat.reduceLT, Nat.reduceLeDiff, Nat.reduceEqDiff, Nat.reduceBEq, ↓reduceIte, reduceCtorEq, fA]
theorem cloneW_spec (l : List Int) (hl : l.length < 1000000) : SpecF Try.prog 72 [.sl 1 (l.map iR)] (.sl 1 (l.map iR)) [] := (cloneW0_spec l hl).frz
theorem clipW_spec (l : List Int) : SpecF Try.prog 74 [.sl 1 (l.map iR)] (.cl 1 (l.map iR)) [] := by
  refine spec_go (N := 9) (rs := [.tmp 2]) (eq := eqs) rfl rfl fun_74 rfl (by kernel_rfl) (by kernel_rfl) (by simp) (by simp) (by simp) (by simp) fun R hR => ?_
  simp (maxSteps := 2000000) only [vcA, ↓vcP, ↓reduceIte, reduceCtorEq, Nat.reduceAdd, Nat.reduceMul, Nat.reduceSub, Nat.reduceLT, Nat.reduceLeDiff, Nat.reduceEqDiff, Nat.reduceBEq, Nat.reduceBNe, Nat.reduceGT, Nat.reduceDiv, Nat.reduceMod, Int.reduceAdd, Int.reduceSub, Int.reduceNeg, Int.reduceLT, Int.reduceLE, Int.reduceEq, Int.reduceToNat, fA]
  refine hR _ (fin_of0 ?_)
  simp (maxSteps := 2000000) only [enA, ↓enP, Nat.reduceAdd, Nat.reduceMul, Nat.reduceSub, Nat.reduceLT, Nat.reduceLeDiff, Nat.reduceEqDiff, Nat.reduceBEq, ↓reduceIte, reduceCtorEq, fA]
theorem ways_spec (l : Ld) (w : List Int) (C : Nat → Int) : SpecF Try.prog 52 [.agg [.sl 1 (l.boxes.map boxR), .sl 2 (l.bills.map biR)], .sl 1 (w.map iR), .agg (caA C)] (.fn 70 [.ptr 0 0, .ptr 1 0, .ptr 2 0]) [.box 75 [.sl 1 (w.map iR)], .box 71 [.sl 1 (l.boxes.map boxR), .sl 2 (l.bills.map biR)], .box 120 (caA C)] := by
  refine spec_go (N := 8) (rs := [.tmp 6]) (eq := eqs) rfl rfl fun_52 rfl (by kernel_rfl) (by kernel_rfl) (by simp) (by simp) (by simp) (by simp) fun R hR => ?_
  simp (maxSteps := 2000000) only [vcA, ↓vcP, ↓reduceIte, reduceCtorEq, Nat.reduceAdd, Nat.reduceMul, Nat.reduceSub, Nat.reduceLT, Nat.reduceLeDiff, Nat.reduceEqDiff, Nat.reduceBEq, Nat.reduceBNe, Nat.reduceGT, Nat.reduceDiv, Nat.reduceMod, Int.reduceAdd, Int.reduceSub, Int.reduceNeg, Int.reduceLT, Int.reduceLE, Int.reduceEq, Int.reduceToNat, fA]
  refine hR _ (fin_of1 [some 16, some 8, some 24] ?_)
  simp (maxSteps := 2000000) only [enA, ↓enP, Nat.reduceAdd, Nat.reduceMul, Nat.reduceSub, Nat.reduceLT, Nat.reduceLeDiff, Nat.reduceEqDiff, Nat.reduceBEq, ↓reduceIte, reduceCtorEq, fA, caA_eqr, caA_tk]
end Go.Proofs.Ytmkholodkejomaa.Ab.T08
