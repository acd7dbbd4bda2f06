/- The ways: the document's, as a list. -/
import Derived.Test.YtmjnlcfnaoloeaaZK4
namespace Go.Proofs.Ytmjnlcfnaoloeaa.Ab.T12
open Go Go.RowKit
set_option linter.unusedVariables false
set_option linter.unusedSimpArgs false
set_option maxRecDepth 100000
/-- In how many ways lines can be chosen, or none: one. -/
def prodL : List Ln → Nat
  | [] => 1
  | l :: ls => max 1 (allL l).length * prodL ls
theorem prodL_pos : ∀ ls, 1 ≤ prodL ls
  | [] => Nat.le_refl _
  | l :: ls => by
    have h := prodL_pos ls
    have : 1 * 1 ≤ max 1 (allL l).length * prodL ls := Nat.mul_le_mul (by omega) h
    simp only [prodL]
    omega
theorem prodL_app : ∀ a b, prodL (a ++ b) = prodL a * prodL b
  | [], b => by simp [prodL]
  | l :: a, b => by simp only [List.cons_append, prodL, prodL_app a b, Nat.mul_assoc]
def oneL (l : Ln) : Nat := max 1 (allL l).length
theorem prodL_take {l : List Ln} {i : Nat} (h : i < l.length) : prodL (l.take (i + 1)) = prodL (l.take i) * oneL (nth l i) := by
  have e : l.take (i + 1) = l.take i ++ [nth l i] := by
    have := nth_eq h
    rw [List.take_add_one, this]
    rfl
  rw [e, prodL_app]
  simp [prodL, oneL]
theorem prodL_split (l : List Ln) (i : Nat) : prodL (l.take i) * prodL (l.drop i) = prodL l := by rw [← prodL_app, List.take_append_drop]
theorem prodL_drop_le (l : List Ln) (i : Nat) : prodL (l.drop i) ≤ prodL l := by
  have h := prodL_split l i
  have h1 := prodL_pos (l.take i)
  have : 1 * prodL (l.drop i) ≤ prodL (l.take i) * prodL (l.drop i) := Nat.mul_le_mul_right _ h1
  omega
theorem prodL_take_le (l : List Ln) (i : Nat) : prodL (l.take i) ≤ prodL l := by
  have h := prodL_split l i
  have h1 := prodL_pos (l.drop i)
  have : prodL (l.take i) * 1 ≤ prodL (l.take i) * prodL (l.drop i) := Nat.mul_le_mul_left _ h1
  omega
set_option maxHeartbeats 2000000 in
/-- The count of the ways, or more than the most. -/
theorem sums_spec (b : Bl) (hl : b.lines.length ≤ 5) : ∃ n : Nat, (n ≤ 30000 → n = prodL b.lines) ∧ SpecF Try.prog 32 [.agg [.sl 3 (b.lines.map lnR), .v (.int .i64 b.total)], .v (.int .i64 30000)] (.v (.int .i64 n)) [] := by
  -- the first place at which the loop stops
  have key : ∃ S : Nat, S ≤ b.lines.length ∧ (∀ j, j < S → prodL (b.lines.take j) ≤ 30000) ∧ (S < b.lines.length → 30000 < prodL (b.lines.take S)) := by
    have : ∀ d k : Nat, d + k = b.lines.length → (∀ j, j < k → prodL (b.lines.take j) ≤ 30000) → ∃ S : Nat, S ≤ b.lines.length ∧ (∀ j, j < S → prodL (b.lines.take j) ≤ 30000) ∧ (S < b.lines.length → 30000 < prodL (b.lines.take S)) := by
      intro d
      induction d with
      | zero => intro k hk h; exact ⟨k, by omega, h, fun h => by omega⟩
      | succ d ih =>
        intro k hk h
        by_cases c : prodL (b.lines.take k) ≤ 30000
        · exact ih (k + 1) (by omega) fun j hj => by
            by_cases e : j = k
            · rw [e]; exact c
            · exact h j (by omega)
        · exact ⟨k, by omega, h, fun _ => by omega⟩
    exact this b.lines.length 0 rfl fun j hj => by omega
  obtain ⟨S, hS, h1, h2⟩ := key
  have hbd : ∀ i, i ≤ S → prodL (b.lines.take i) ≤ 78030000 := fun i hi => by
    cases i with
    | zero => simp [prodL]
    | succ i =>
      have g1 := h1 i (by omega)
      have g2 := allL_len (nth b.lines i)
      rw [prodL_take (by omega)]
      have : prodL (b.lines.take i) * oneL (nth b.lines i) ≤ 30000 * 2601 := Nat.mul_le_mul g1 (by unfold oneL; omega)
      omega
  refine ⟨prodL (b.lines.take S), fun h => ?_, ?_⟩
  · have : S = b.lines.length := by
      by_cases c : S < b.lines.length
      · have := h2 c; omega
      · omega
    rw [this, List.take_length]
  refine spec_go (N := 30) (rs := [.tmp 4]) (eq := eqs) rfl rfl fun_32 rfl (by kernel_rfl) (by kernel_rfl) (by simp) (by simp) (by simp) (by simp) fun R hR => ?_
  simp (maxSteps := 2000000) only [vcA, ↓vcP, ↓reduceIte, reduceCtorEq, Nat.reduceAdd, Nat.reduceMul, Nat.reduceSub, Nat.reduceLT, Nat.reduceLeDiff, Nat.reduceEqDiff, Nat.reduceBEq, Nat.reduceBNe, Nat.reduceGT, Nat.reduceDiv, Nat.reduceMod, Int.reduceAdd, Int.reduceSub, Int.reduceNeg, Int.reduceLT, Int.reduceLE, Int.reduceEq, Int.reduceToNat, fA]
  refine goC_loop (α := {i : Nat // i ≤ S}) (fun x => ⟨[(1, .v (.int .i64 30000)), (2, .ptr 8 0), (5, .v (.int .i64 (prodL (b.lines.take x.1) : Nat))), (6, .v (.int .i64 x.1))], [(8, .box 51 [.sl 3 (b.lines.map lnR), .v (.int .i64 b.total)])]⟩) (fun x => S - x.1) ⟨0, by omega⟩ [] ?_ ?_
  · have e0 : prodL (b.lines.take 0) = 1 := by simp [prodL]
    simp (maxSteps := 2000000) only [enA, ↓enP, Nat.reduceAdd, Nat.reduceMul, Nat.reduceSub, Nat.reduceLT, Nat.reduceLeDiff, Nat.reduceEqDiff, Nat.reduceBEq, ↓reduceIte, reduceCtorEq, fA, e0]
    exact ⟨rfl, rfl⟩
  intro x B hB
  obtain ⟨i, hi⟩ := x
  simp only at hB ⊢
  have bd := hbd i hi
  by_cases c : i < S
  · have p1 : ((i : Int) < (b.lines.length : Int)) = True := eq_true (by omega)
    have p1' : (i < b.lines.length) = True := eq_true (by omega)
    have g1 := h1 i c
    have p2 : (((prodL (b.lines.take i) : Nat) : Int) ≤ 30000) = True := eq_true (by omega)
    have ei : IntKind.i64.wrap ((i : Int) + 1) = ((i + 1 : Nat) : Int) := wrap_id (by omega) (by omega)
    have g2 := allL_len (nth b.lines i)
    have bd2 := hbd (i + 1) (by omega)
    rw [prodL_take (by omega)] at bd2
    have em : IntKind.i64.wrap (((prodL (b.lines.take i) : Nat) : Int) * max 1 (((allL (nth b.lines i)).length : Nat) : Int)) = ((prodL (b.lines.take (i + 1)) : Nat) : Int) := by
      rw [prodL_take (by omega)]
      have e : max 1 (((allL (nth b.lines i)).length : Nat) : Int) = ((oneL (nth b.lines i) : Nat) : Int) := by unfold oneL; omega
      rw [e, ← Int.natCast_mul, wrap_id (by omega) (by omega)]
    simp (maxSteps := 2000000) only [vcA, ↓vcP, ↓reduceIte, reduceCtorEq, Nat.reduceAdd, Nat.reduceMul, Nat.reduceSub, Nat.reduceLT, Nat.reduceLeDiff, Nat.reduceEqDiff, Nat.reduceBEq, Nat.reduceBNe, Nat.reduceGT, Nat.reduceDiv, Nat.reduceMod, Int.reduceAdd, Int.reduceSub, Int.reduceNeg, Int.reduceLT, Int.reduceLE, Int.reduceEq, Int.reduceToNat, fA, p1, p1', p2, lnR]
    refine onF_data (line_spec (nth b.lines i)) ?_ ?_
    · simp (maxSteps := 2000000) only [okA, ↓okP, Nat.reduceAdd, Nat.reduceMul, Nat.reduceSub, Nat.reduceLT, Nat.reduceLeDiff, Nat.reduceEqDiff, Nat.reduceBEq, ↓reduceIte, reduceCtorEq]
    simp (maxSteps := 2000000) only [vcA, ↓vcP, ↓reduceIte, reduceCtorEq, Nat.reduceAdd, Nat.reduceMul, Nat.reduceSub, Nat.reduceLT, Nat.reduceLeDiff, Nat.reduceEqDiff, Nat.reduceBEq, Nat.reduceBNe, Nat.reduceGT, Nat.reduceDiv, Nat.reduceMod, Int.reduceAdd, Int.reduceSub, Int.reduceNeg, Int.reduceLT, Int.reduceLE, Int.reduceEq, Int.reduceToNat, fA, em]
    refine hB _ ⟨i + 1, by omega⟩ [] (by simp only; omega) rfl ?_
    simp (maxSteps := 2000000) only [enA, ↓enP, Nat.reduceAdd, Nat.reduceMul, Nat.reduceSub, Nat.reduceLT, Nat.reduceLeDiff, Nat.reduceEqDiff, Nat.reduceBEq, ↓reduceIte, reduceCtorEq, fA, ei, em]
    try rfl
  obtain rfl : i = S := by omega
  by_cases c2 : i < b.lines.length
  · have p1 : ((i : Int) < (b.lines.length : Int)) = True := eq_true (by omega)
    have p1' : (i < b.lines.length) = True := eq_true c2
    have g2 := h2 c2
    have p2 : (((prodL (b.lines.take i) : Nat) : Int) ≤ 30000) = False := eq_false (by omega)
    simp (maxSteps := 2000000) only [vcA, ↓vcP, ↓reduceIte, reduceCtorEq, Nat.reduceAdd, Nat.reduceMul, Nat.reduceSub, Nat.reduceLT, Nat.reduceLeDiff, Nat.reduceEqDiff, Nat.reduceBEq, Nat.reduceBNe, Nat.reduceGT, Nat.reduceDiv, Nat.reduceMod, Int.reduceAdd, Int.reduceSub, Int.reduceNeg, Int.reduceLT, Int.reduceLE, Int.reduceEq, Int.reduceToNat, fA, p1, p1', p2]
    refine hR _ (fin_of0 ?_)
    simp (maxSteps := 2000000) only [enA, ↓enP, Nat.reduceAdd, Nat.reduceMul, Nat.reduceSub, Nat.reduceLT, Nat.reduceLeDiff, Nat.reduceEqDiff, Nat.reduceBEq, ↓reduceIte, reduceCtorEq, fA]
  · have p1 : ((i : Int) < (b.lines.length : Int)) = False := eq_false (by omega)
    have p1' : (i < b.lines.length) = False := eq_false c2
    simp (maxSteps := 2000000) only [vcA, ↓vcP, ↓reduceIte, reduceCtorEq, Nat.reduceAdd, Nat.reduceMul, Nat.reduceSub, Nat.reduceLT, Nat.reduceLeDiff, Nat.reduceEqDiff, Nat.reduceBEq, Nat.reduceBNe, Nat.reduceGT, Nat.reduceDiv, Nat.reduceMod, Int.reduceAdd, Int.reduceSub, Int.reduceNeg, Int.reduceLT, Int.reduceLE, Int.reduceEq, Int.reduceToNat, fA, p1, p1']
    refine hR _ (fin_of0 ?_)
    simp (maxSteps := 2000000) only [enA, ↓enP, Nat.reduceAdd, Nat.reduceMul, Nat.reduceSub, Nat.reduceLT, Nat.reduceLeDiff, Nat.reduceEqDiff, Nat.reduceBEq, ↓reduceIte, reduceCtorEq, fA]
/-- All right bills, the first lines of which are chosen. -/
def waysL (tot : Int) : List Ln → List Ln → List Bl
  | [], now => if tot ≠ -1 ∧ tot ≠ sumA now now.length then [] else [⟨now, sumA now now.length⟩]
  | l :: ls, now => (allL l).flatMap fun x => waysL tot ls (now ++ [x])
theorem flat_len {α β : Type} {f : α → List β} {k : Nat} : ∀ {l : List α}, (∀ x ∈ l, (f x).length ≤ k) → (l.flatMap f).length ≤ l.length * k
  | [], _ => by simp
  | a :: l, h => by
    have h1 := flat_len (f := f) (l := l) fun x hx => h x (by simp [hx])
    have h2 := h a (by simp)
    rw [List.flatMap_cons, List.length_append, List.length_cons, Nat.add_mul]
    omega
theorem waysL_len (tot : Int) : ∀ ls now, (waysL tot ls now).length ≤ prodL ls
  | [], now => by unfold waysL; split <;> simp [prodL]
  | l :: ls, now => by
    have h := flat_len (f := fun x => waysL tot ls (now ++ [x])) (l := allL l) (k := prodL ls) fun x _ => waysL_len tot ls _
    have : (allL l).length * prodL ls ≤ max 1 (allL l).length * prodL ls := Nat.mul_le_mul_right _ (by omega)
    simp only [waysL, prodL]
    omega
def waysT (tot : Int) (L : List Ln) (ls now : List Ln) (i : Nat) : List Bl := (L.take i).flatMap fun x => waysL tot ls (now ++ [x])
theorem waysT_succ {tot : Int} {L ls now : List Ln} {i : Nat} (h : i < L.length) : waysT tot L ls now (i + 1) = waysT tot L ls now i ++ waysL tot ls (now ++ [nth L i]) := by
  have e : L.take (i + 1) = L.take i ++ [nth L i] := by
    have := nth_eq h
    rw [List.take_add_one, this]
    rfl
  unfold waysT
  rw [e, List.flatMap_append]
  simp
def blR (b : Bl) : List DV := [.sl 3 (b.lines.map lnR), .v (.int .i64 b.total)]
end Go.Proofs.Ytmjnlcfnaoloeaa.Ab.T12
