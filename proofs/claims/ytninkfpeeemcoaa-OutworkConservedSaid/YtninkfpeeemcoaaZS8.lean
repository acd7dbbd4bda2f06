/- The walk of the law OutworkConserved. -/
import Derived.Test.YtninkfpeeemcoaaZS6
namespace Go.Proofs.Ytninkfpeeemcoaa.Ab.T07
open Go Go.RowKit
set_option linter.unusedVariables false
set_option linter.unusedSimpArgs false
set_option maxRecDepth 100000
/-- Three truths. -/
def kbA (K : Nat → Bool) : List AV := [.v (.bool (K 0)), .v (.bool (K 1)), .v (.bool (K 2))]
def setB (K : Nat → Bool) (i : Nat) (v : Bool) : Nat → Bool := fun j => if j = i then v else K j
theorem kbA_len (K : Nat → Bool) : (kbA K).length = 3 := rfl
theorem kbA_get (K : Nat → Bool) {n : Nat} (h : n < 3) : (List.take 1 (List.drop n (kbA K))).headD .un = .v (.bool (K n)) := by
  match n, h with
  | 0, _ | 1, _ | 2, _ => rfl
  | n + 3, h => omega
theorem kbA_put (K : Nat → Bool) {n : Nat} (h : n < 3) (v : Bool) : put (kbA K) n [.v (.bool v)] = kbA (setB K n v) := by
  match n, h with
  | 0, _ | 1, _ | 2, _ => rfl
  | n + 3, h => omega
theorem kbA_get1 (K : Nat → Bool) {n : Nat} (h : n < 3) : (List.take 1 (List.drop (n * 1) (kbA K))).headD .un = .v (.bool (K n)) := by
  rw [Nat.mul_one]; exact kbA_get K h
theorem kbA_put1 (K : Nat → Bool) {n : Nat} (h : n < 3) (v : Bool) : put (kbA K) (n * 1) [.v (.bool v)] = kbA (setB K n v) := by
  rw [Nat.mul_one]; exact kbA_put K h v
def kN (r : Rl) (lim : Int) : Nat → Nat → Bool
  | 0 => fun _ => false
  | n + 1 => setB (kN r lim n) (n / 2) (kN r lim n (n / 2) || decide (leftI r (n / 2) (n % 2) > lim))
theorem kN_six (r : Rl) (lim : Int) {w : Nat} (hw : w < 3) : kN r lim 6 w = keptT r lim w := by
  unfold keptT
  obtain rfl | rfl | rfl : w = 0 ∨ w = 1 ∨ w = 2 := by omega
  · simp [kN, setB]
  · simp [kN, setB]
  · simp [kN, setB]
theorem rlA_eqr (ρ : Nat → Option (Option Nat)) (r : Rl) : eqrL (eqr1 ρ) (rlA r) (rlA r) := by
  unfold rlA
  and_intros <;> first | rfl | trivial
theorem sum3_bd {f : Nat → Int} (hf : ∀ m, -100000000 ≤ f m ∧ f m ≤ 100000000) : ∀ n : Nat, -100000000 * (n : Int) ≤ sum3 f n ∧ sum3 f n ≤ 100000000 * (n : Int)
  | 0 => by simp [sum3]
  | n + 1 => by
    have i := sum3_bd hf n
    have a := hf n
    simp only [sum3]
    omega
theorem sum3_add {f : Nat → Int} (hf : ∀ m, -100000000 ≤ f m ∧ f m ≤ 100000000) {n : Nat} (hn : n < 3) {v : Int} (hv : v = f n) : IntKind.i64.wrap (sum3 f n + v) = sum3 f (n + 1) := by
  have a := sum3_bd hf n
  have b := hf n
  rw [hv]
  exact wrap_id (by omega) (by omega)
theorem sum3_add2 {f g : Nat → Int} (hf : ∀ m, -10000000 ≤ f m ∧ f m ≤ 10000000) (hg : ∀ m, -10000000 ≤ g m ∧ g m ≤ 10000000) {n : Nat} (hn : n < 3) {v u : Int} (hv : v = f n) (hu : u = g n) : IntKind.i64.wrap (IntKind.i64.wrap (sum3 (fun w => f w - g w) n + v) - u) = sum3 (fun w => f w - g w) (n + 1) := by
  have a := sum3_bd (f := fun w => f w - g w) (fun m => by have := hf m; have := hg m; omega) n
  have b := hf n
  have c := hg n
  rw [hv, hu]
  have e : IntKind.i64.wrap (sum3 (fun w => f w - g w) n + f n) = sum3 (fun w => f w - g w) n + f n := wrap_id (by omega) (by omega)
  rw [e]
  have e2 : sum3 (fun w => f w - g w) (n + 1) = sum3 (fun w => f w - g w) n + f n - g n := by simp only [sum3]; omega
  rw [e2]
  exact wrap_id (by omega) (by omega)
set_option pp.maxSteps 1000000
set_option pp.deepTerms true
set_option maxHeartbeats 4000000 in
theorem conserved_spec (x : Sh) (l : List Int) (lim : Int) (hx : x.Ok) (hl : ∀ n ∈ l, By n) (hlim : By lim) : SpecF Try.prog 3 [.agg (shA x), .sl 1 (l.map u8R), .v (.int .u8 lim)] (.v (.bool true)) [] := by
  have t := shop_tru hx hl
  have hS := shopF_spec x l hx hl
  have hr := shop_bd hx hl
  obtain ⟨h, hh⟩ : ∃ h, h = houseX x := ⟨_, rfl⟩
  obtain ⟨b, hb⟩ : ∃ b, b = bookX x l := ⟨_, rfl⟩
  obtain ⟨r, hr0⟩ : ∃ r, r = realX x l := ⟨_, rfl⟩
  rw [← hh, ← hb, ← hr0] at t hS
  rw [← hr0] at hr
  clear hh hb hr0
  have l1 : h.tk.length < 1000 := by have := t.two; omega
  have l2 : h.lo.length < 1000 := by have := t.two; have := t.t.ok.hs.lo; omega
  have l3 : b.length < 1000 := by have := t.t.ten; omega
  unfold By at hlim
  have b0 : ((0 : Int) == 0) = true := rfl
  have elim : IntKind.i64.wrap lim = lim := wrap_id (by omega) (by omega)
  unfold shA at *
  refine spec_go (N := 245) (rs := [.tmp 6]) (eq := eqs) rfl rfl fun_3 rfl (by kernel_rfl) (by kernel_rfl) (by simp) (by simp) (by simp) (by simp) fun R hR => ?_
  simp (maxSteps := 2000000) only [vcA, ↓vcP, ↓reduceIte, reduceCtorEq, Nat.reduceAdd, Nat.reduceMul, Nat.reduceSub, Nat.reduceLT, Nat.reduceLeDiff, Nat.reduceEqDiff, Nat.reduceBEq, Nat.reduceBNe, Nat.reduceGT, Nat.reduceDiv, Nat.reduceMod, Int.reduceAdd, Int.reduceSub, Int.reduceNeg, Int.reduceLT, Int.reduceLE, Int.reduceEq, Int.reduceToNat, fA]
  refine onF_data hS ?_ ?_
  · simp (maxSteps := 2000000) only [okA, ↓okP, Nat.reduceAdd, Nat.reduceMul, Nat.reduceSub, Nat.reduceLT, Nat.reduceLeDiff, Nat.reduceEqDiff, Nat.reduceBEq, ↓reduceIte, reduceCtorEq]
  simp (maxSteps := 2000000) only [vcA, ↓vcP, ↓reduceIte, reduceCtorEq, Nat.reduceAdd, Nat.reduceMul, Nat.reduceSub, Nat.reduceLT, Nat.reduceLeDiff, Nat.reduceEqDiff, Nat.reduceBEq, Nat.reduceBNe, Nat.reduceGT, Nat.reduceDiv, Nat.reduceMod, Int.reduceAdd, Int.reduceSub, Int.reduceNeg, Int.reduceLT, Int.reduceLE, Int.reduceEq, Int.reduceToNat, fA]
  refine ⟨rlA_len r, fun _ => ?_⟩
  refine goC_loop (α := {w : Nat // w ≤ 3}) (fun y => ⟨[(2, .v (.int .u8 lim)), (6, .v (.bool false)), (7, .ptr 80 0), (8, .sl 4 (b.map enR)), (9, .ptr 88 0), (10, .ptr 128 0), (11, .v (.int .i64 y.1))], [(80, .box 30 [.v (.int .i64 h.sc), .sl 2 (h.tk.map spR), .sl 1 (h.lo.map iR)]), (88, .box 35 (rlA r)), (128, .box 38 (kbA (kN r lim (2 * y.1))))]⟩) (fun y => 3 - y.1) ⟨0, by omega⟩ [] ?_ ?_
  · simp only [Nat.mul_zero, kN]
    simp (maxSteps := 2000000) only [enA, ↓enP, Nat.reduceAdd, Nat.reduceMul, Nat.reduceSub, Nat.reduceLT, Nat.reduceLeDiff, Nat.reduceEqDiff, Nat.reduceBEq, ↓reduceIte, reduceCtorEq, fA, shA, rlA, kbA]
    exact ⟨rfl, rlA_eqr _ r⟩
  intro y B hB
  obtain ⟨w, hw⟩ := y
  simp only at hB ⊢
  by_cases cw : ¬ w < 3
  · have w3 : w = 3 := by omega
    subst w3
    simp (maxSteps := 2000000) only [vcA, ↓vcP, ↓reduceIte, reduceCtorEq, Nat.reduceAdd, Nat.reduceMul, Nat.reduceSub, Nat.reduceLT, Nat.reduceLeDiff, Nat.reduceEqDiff, Nat.reduceBEq, Nat.reduceBNe, Nat.reduceGT, Nat.reduceDiv, Nat.reduceMod, Int.reduceAdd, Int.reduceSub, Int.reduceNeg, Int.reduceLT, Int.reduceLE, Int.reduceEq, Int.reduceToNat, fA]
    refine onF_data (copied_spec h l1 l2) ?_ ?_
    · simp (maxSteps := 2000000) only [okA, ↓okP, Nat.reduceAdd, Nat.reduceMul, Nat.reduceSub, Nat.reduceLT, Nat.reduceLeDiff, Nat.reduceEqDiff, Nat.reduceBEq, ↓reduceIte, reduceCtorEq]
    simp (maxSteps := 2000000) only [vcA, ↓vcP, ↓reduceIte, reduceCtorEq, Nat.reduceAdd, Nat.reduceMul, Nat.reduceSub, Nat.reduceLT, Nat.reduceLeDiff, Nat.reduceEqDiff, Nat.reduceBEq, Nat.reduceBNe, Nat.reduceGT, Nat.reduceDiv, Nat.reduceMod, Int.reduceAdd, Int.reduceSub, Int.reduceNeg, Int.reduceLT, Int.reduceLE, Int.reduceEq, Int.reduceToNat, fA]
    refine onF_data (lines_spec b l3) ?_ ?_
    · simp (maxSteps := 2000000) only [okA, ↓okP, Nat.reduceAdd, Nat.reduceMul, Nat.reduceSub, Nat.reduceLT, Nat.reduceLeDiff, Nat.reduceEqDiff, Nat.reduceBEq, ↓reduceIte, reduceCtorEq]
    simp (maxSteps := 2000000) only [vcA, ↓vcP, ↓reduceIte, reduceCtorEq, Nat.reduceAdd, Nat.reduceMul, Nat.reduceSub, Nat.reduceLT, Nat.reduceLeDiff, Nat.reduceEqDiff, Nat.reduceBEq, Nat.reduceBNe, Nat.reduceGT, Nat.reduceDiv, Nat.reduceMod, Int.reduceAdd, Int.reduceSub, Int.reduceNeg, Int.reduceLT, Int.reduceLE, Int.reduceEq, Int.reduceToNat, fA, elim]
    have hKf := keptF_spec h b lim (by omega) (by omega) (by omega)
    rw [t.keptErr hlim] at hKf
    refine onF_data hKf ?_ ?_
    · simp (maxSteps := 2000000) only [okA, ↓okP, Nat.reduceAdd, Nat.reduceMul, Nat.reduceSub, Nat.reduceLT, Nat.reduceLeDiff, Nat.reduceEqDiff, Nat.reduceBEq, ↓reduceIte, reduceCtorEq]
    have kl1 : (kept1 h b lim).length ≤ 6 := by unfold kept1; split; exact keptL_le _ _; simp
    have kl2 : (kept2 h b lim).length ≤ 6 := by unfold kept2; split; exact keptL_le _ _; simp
    have hk1 := fun w hw => t.kept1 hlim (w := w) hw
    have hk2 := fun w hw => t.kept2 hlim (w := w) hw
    generalize kept1 h b lim = k1 at *
    generalize kept2 h b lim = k2 at *
    simp (maxSteps := 2000000) only [vcA, ↓vcP, ↓reduceIte, reduceCtorEq, Nat.reduceAdd, Nat.reduceMul, Nat.reduceSub, Nat.reduceLT, Nat.reduceLeDiff, Nat.reduceEqDiff, Nat.reduceBEq, Nat.reduceBNe, Nat.reduceGT, Nat.reduceDiv, Nat.reduceMod, Int.reduceAdd, Int.reduceSub, Int.reduceNeg, Int.reduceLT, Int.reduceLE, Int.reduceEq, Int.reduceToNat, fA]
    refine goC_loop (α := {w : Nat // w ≤ 3}) (fun y => ⟨[(2, .v (.int .u8 lim)), (6, .v (.bool false)), (7, .ptr 80 0), (8, .sl 4 (b.map enR)), (9, .ptr 88 0), (10, .ptr 128 0), (15, .sl 1 (k1.map iR)), (16, .sl 1 (k2.map iR)), (18, .v (.int .i64 y.1))], [(80, .box 30 [.v (.int .i64 h.sc), .sl 2 (h.tk.map spR), .sl 1 (h.lo.map iR)]), (88, .box 35 (rlA r)), (128, .box 38 (kbA (kN r lim 6)))]⟩) (fun y => 3 - y.1) ⟨0, by omega⟩ [] ?_ ?_
    · simp (maxSteps := 2000000) only [enA, ↓enP, Nat.reduceAdd, Nat.reduceMul, Nat.reduceSub, Nat.reduceLT, Nat.reduceLeDiff, Nat.reduceEqDiff, Nat.reduceBEq, ↓reduceIte, reduceCtorEq, fA, rlA, kbA]
      rfl
    intro y B4 hB4
    obtain ⟨w, hw⟩ := y
    simp only at hB4 ⊢
    by_cases cw : ¬ w < 3
    · have w3 : w = 3 := by omega
      subst w3
      simp (maxSteps := 2000000) only [vcA, ↓vcP, ↓reduceIte, reduceCtorEq, Nat.reduceAdd, Nat.reduceMul, Nat.reduceSub, Nat.reduceLT, Nat.reduceLeDiff, Nat.reduceEqDiff, Nat.reduceBEq, Nat.reduceBNe, Nat.reduceGT, Nat.reduceDiv, Nat.reduceMod, Int.reduceAdd, Int.reduceSub, Int.reduceNeg, Int.reduceLT, Int.reduceLE, Int.reduceEq, Int.reduceToNat, fA]
      clear hB4 hB hk1 hk2
      refine goC_loop (α := {s : Nat // s ≤ 2}) (fun y => ⟨[(6, .v (.bool false)), (7, .ptr 80 0), (8, .sl 4 (b.map enR)), (9, .ptr 88 0), (19, .v (.int .i64 y.1))], [(80, .box 30 [.v (.int .i64 h.sc), .sl 2 (h.tk.map spR), .sl 1 (h.lo.map iR)]), (88, .box 35 (rlA r))]⟩) (fun y => 2 - y.1) ⟨0, by omega⟩ [] ?_ ?_
      · simp (maxSteps := 2000000) only [enA, ↓enP, Nat.reduceAdd, Nat.reduceMul, Nat.reduceSub, Nat.reduceLT, Nat.reduceLeDiff, Nat.reduceEqDiff, Nat.reduceBEq, ↓reduceIte, reduceCtorEq, fA, rlA]
        rfl
      intro y B6 hB6
      obtain ⟨s, hs⟩ := y
      simp only at hB6 ⊢
      by_cases cs : ¬ s < 2
      · have s2 : s = 2 := by omega
        subst s2
        simp (maxSteps := 2000000) only [vcA, ↓vcP, ↓reduceIte, reduceCtorEq, Nat.reduceAdd, Nat.reduceMul, Nat.reduceSub, Nat.reduceLT, Nat.reduceLeDiff, Nat.reduceEqDiff, Nat.reduceBEq, Nat.reduceBNe, Nat.reduceGT, Nat.reduceDiv, Nat.reduceMod, Int.reduceAdd, Int.reduceSub, Int.reduceNeg, Int.reduceLT, Int.reduceLE, Int.reduceEq, Int.reduceToNat, fA]
        refine onF_data (movedF_spec h b (by omega) (by omega) (by omega)) ?_ ?_
        · simp (maxSteps := 2000000) only [okA, ↓okP, Nat.reduceAdd, Nat.reduceMul, Nat.reduceSub, Nat.reduceLT, Nat.reduceLeDiff, Nat.reduceEqDiff, Nat.reduceBEq, ↓reduceIte, reduceCtorEq]
        have m2 : (movedR h b).length = 2 := by rw [t.movedR]; rfl
        have m0 : nth (movedR h b) 0 = 0 := by rw [t.movedR]; rfl
        have m1 : nth (movedR h b) 1 = 0 := by rw [t.movedR]; rfl
        rw [t.movedErr]
        simp (maxSteps := 2000000) only [vcA, ↓vcP, ↓reduceIte, reduceCtorEq, Nat.reduceAdd, Nat.reduceMul, Nat.reduceSub, Nat.reduceLT, Nat.reduceLeDiff, Nat.reduceEqDiff, Nat.reduceBEq, Nat.reduceBNe, Nat.reduceGT, Nat.reduceDiv, Nat.reduceMod, Int.reduceAdd, Int.reduceSub, Int.reduceNeg, Int.reduceLT, Int.reduceLE, Int.reduceEq, Int.reduceToNat, fA, b0, m2, m0, m1, iR]
        refine onF_data known_spec ?_ ?_
        · simp (maxSteps := 2000000) only [okA, ↓okP, Nat.reduceAdd, Nat.reduceMul, Nat.reduceSub, Nat.reduceLT, Nat.reduceLeDiff, Nat.reduceEqDiff, Nat.reduceBEq, ↓reduceIte, reduceCtorEq]
        simp (maxSteps := 2000000) only [vcA, ↓vcP, ↓reduceIte, reduceCtorEq, Nat.reduceAdd, Nat.reduceMul, Nat.reduceSub, Nat.reduceLT, Nat.reduceLeDiff, Nat.reduceEqDiff, Nat.reduceBEq, Nat.reduceBNe, Nat.reduceGT, Nat.reduceDiv, Nat.reduceMod, Int.reduceAdd, Int.reduceSub, Int.reduceNeg, Int.reduceLT, Int.reduceLE, Int.reduceEq, Int.reduceToNat, fA]
        refine hR _ (fin_of0 ?_)
        simp (maxSteps := 2000000) only [enA, ↓enP, Nat.reduceAdd, Nat.reduceMul, Nat.reduceSub, Nat.reduceLT, Nat.reduceLeDiff, Nat.reduceEqDiff, Nat.reduceBEq, ↓reduceIte, reduceCtorEq, fA]
      replace cs : s < 2 := Decidable.not_not.1 cs
      have ps1 : ((s : Int) < 2) = True := eq_true (by omega)
      have ps2 : ((2 : Int) ≤ s) = False := eq_false (by omega)
      have es : IntKind.i64.wrap ((s : Int) + 1) = ((s + 1 : Nat) : Int) := wrap_id (by omega) (by omega)
      simp (maxSteps := 2000000) only [vcA, ↓vcP, ↓reduceIte, reduceCtorEq, Nat.reduceAdd, Nat.reduceMul, Nat.reduceSub, Nat.reduceLT, Nat.reduceLeDiff, Nat.reduceEqDiff, Nat.reduceBEq, Nat.reduceBNe, Nat.reduceGT, Nat.reduceDiv, Nat.reduceMod, Int.reduceAdd, Int.reduceSub, Int.reduceNeg, Int.reduceLT, Int.reduceLE, Int.reduceEq, Int.reduceToNat, fA, ps1, ps2]
      refine onF_data (copied_spec h l1 l2) ?_ ?_
      · simp (maxSteps := 2000000) only [okA, ↓okP, Nat.reduceAdd, Nat.reduceMul, Nat.reduceSub, Nat.reduceLT, Nat.reduceLeDiff, Nat.reduceEqDiff, Nat.reduceBEq, ↓reduceIte, reduceCtorEq]
      simp (maxSteps := 2000000) only [vcA, ↓vcP, ↓reduceIte, reduceCtorEq, Nat.reduceAdd, Nat.reduceMul, Nat.reduceSub, Nat.reduceLT, Nat.reduceLeDiff, Nat.reduceEqDiff, Nat.reduceBEq, Nat.reduceBNe, Nat.reduceGT, Nat.reduceDiv, Nat.reduceMod, Int.reduceAdd, Int.reduceSub, Int.reduceNeg, Int.reduceLT, Int.reduceLE, Int.reduceEq, Int.reduceToNat, fA]
      refine onF_data (lines_spec b l3) ?_ ?_
      · simp (maxSteps := 2000000) only [okA, ↓okP, Nat.reduceAdd, Nat.reduceMul, Nat.reduceSub, Nat.reduceLT, Nat.reduceLeDiff, Nat.reduceEqDiff, Nat.reduceBEq, ↓reduceIte, reduceCtorEq]
      simp (maxSteps := 2000000) only [vcA, ↓vcP, ↓reduceIte, reduceCtorEq, Nat.reduceAdd, Nat.reduceMul, Nat.reduceSub, Nat.reduceLT, Nat.reduceLeDiff, Nat.reduceEqDiff, Nat.reduceBEq, Nat.reduceBNe, Nat.reduceGT, Nat.reduceDiv, Nat.reduceMod, Int.reduceAdd, Int.reduceSub, Int.reduceNeg, Int.reduceLT, Int.reduceLE, Int.reduceEq, Int.reduceToNat, fA]
      have hLi := lies_spec h b s (by omega) (by omega) (by omega)
      rw [t.liesErr cs] at hLi
      refine onF_data hLi ?_ ?_
      · simp (maxSteps := 2000000) only [okA, ↓okP, Nat.reduceAdd, Nat.reduceMul, Nat.reduceSub, Nat.reduceLT, Nat.reduceLeDiff, Nat.reduceEqDiff, Nat.reduceBEq, ↓reduceIte, reduceCtorEq]
      have tl := t.lies cs
      generalize liesR h b s = lr at *
      obtain ⟨x1, x2, x3⟩ := lr
      simp (maxSteps := 2000000) only [vcA, ↓vcP, ↓reduceIte, reduceCtorEq, Nat.reduceAdd, Nat.reduceMul, Nat.reduceSub, Nat.reduceLT, Nat.reduceLeDiff, Nat.reduceEqDiff, Nat.reduceBEq, Nat.reduceBNe, Nat.reduceGT, Nat.reduceDiv, Nat.reduceMod, Int.reduceAdd, Int.reduceSub, Int.reduceNeg, Int.reduceLT, Int.reduceLE, Int.reduceEq, Int.reduceToNat, fA]
      have z : ∀ f : Nat → Int, sum3 f 0 = 0 := fun _ => rfl
      have hL : ∀ m : Nat, -100000000 ≤ leftI r m s ∧ leftI r m s ≤ 100000000 := fun m => by
        have a0 := hr (2 * m + s)
        have a1 := hr (6 + 2 * m + s)
        have a2 := hr (12 + 2 * m + s)
        have a3 := hr (18 + 2 * m + s)
        unfold leftI
        omega
      have hFn : ∀ m : Nat, -100000000 ≤ r (12 + 2 * m + s) ∧ r (12 + 2 * m + s) ≤ 100000000 := fun m => by have := hr (12 + 2 * m + s); omega
      have hLo : ∀ m : Nat, -100000000 ≤ r (18 + 2 * m + s) ∧ r (18 + 2 * m + s) ≤ 100000000 := fun m => by have := hr (18 + 2 * m + s); omega
      have hO : ∀ m : Nat, -10000000 ≤ r (2 * m + s) ∧ r (2 * m + s) ≤ 10000000 := fun m => by have := hr (2 * m + s); omega
      have hB1 : ∀ m : Nat, -10000000 ≤ r (6 + 2 * m + s) ∧ r (6 + 2 * m + s) ≤ 10000000 := fun m => by have := hr (6 + 2 * m + s); omega
      refine goC_loop (α := {w : Nat // w ≤ 3}) (fun y => ⟨[(6, .v (.bool false)), (7, .ptr 80 0), (8, .sl 4 (b.map enR)), (9, .ptr 88 0), (19, .v (.int .i64 s)), (20, .ptr 528 0), (21, .ptr 536 0), (22, .ptr 544 0), (23, .v (.int .i64 0)), (24, .v (.int .i64 (sum3 (fun w => leftI r w s) y.1))), (25, .v (.int .i64 (sum3 (fun w => r (12 + 2 * w + s)) y.1))), (26, .v (.int .i64 (sum3 (fun w => r (18 + 2 * w + s)) y.1))), (27, .v (.int .i64 (sum3 (fun w => r (2 * w + s) - r (6 + 2 * w + s)) y.1))), (28, .v (.int .i64 y.1))], [(80, .box 30 [.v (.int .i64 h.sc), .sl 2 (h.tk.map spR), .sl 1 (h.lo.map iR)]), (88, .box 35 (rlA r)), (528, .box 47 [.v (.int .i64 x1.1), .v (.int .i64 x1.2)]), (536, .box 47 [.v (.int .i64 x2.1), .v (.int .i64 x2.2)]), (544, .box 47 [.v (.int .i64 x3.1), .v (.int .i64 x3.2)])]⟩) (fun y => 3 - y.1) ⟨0, by omega⟩ [] ?_ ?_
      · simp (maxSteps := 2000000) only [enA, ↓enP, Nat.reduceAdd, Nat.reduceMul, Nat.reduceSub, Nat.reduceLT, Nat.reduceLeDiff, Nat.reduceEqDiff, Nat.reduceBEq, ↓reduceIte, reduceCtorEq, fA, rlA, z]
        rfl
      intro y B8 hB8
      obtain ⟨w, hw⟩ := y
      simp only at hB8 ⊢
      by_cases cw : ¬ w < 3
      · have w3 : w = 3 := by omega
        subst w3
        have sa := sum_all r s 3
        have bl1 := sum3_bd hL 3
        have bl2 := sum3_bd hFn 3
        have bl3 := sum3_bd hLo 3
        generalize sum3 (fun w => leftI r w s) 3 = y1 at *
        generalize sum3 (fun w => r (12 + 2 * w + s)) 3 = y2 at *
        generalize sum3 (fun w => r (18 + 2 * w + s)) 3 = y3 at *
        generalize sum3 (fun w => r (2 * w + s) - r (6 + 2 * w + s)) 3 = y4 at *
        have sw1 : IntKind.i64.wrap (y1 + y2) = y1 + y2 := wrap_id (by omega) (by omega)
        have sw2 : IntKind.i64.wrap (y1 + y2 + y3) = y4 := by rw [← sa]; exact wrap_id (by omega) (by omega)
        have y44 : (y4 != y4) = false := by simp
        simp (maxSteps := 2000000) only [vcA, ↓vcP, ↓reduceIte, reduceCtorEq, Nat.reduceAdd, Nat.reduceMul, Nat.reduceSub, Nat.reduceLT, Nat.reduceLeDiff, Nat.reduceEqDiff, Nat.reduceBEq, Nat.reduceBNe, Nat.reduceGT, Nat.reduceDiv, Nat.reduceMod, Int.reduceAdd, Int.reduceSub, Int.reduceNeg, Int.reduceLT, Int.reduceLE, Int.reduceEq, Int.reduceToNat, fA, b0]
        refine onF_data (inS_spec y1 x1) ?_ ?_
        · simp (maxSteps := 2000000) only [okA, ↓okP, Nat.reduceAdd, Nat.reduceMul, Nat.reduceSub, Nat.reduceLT, Nat.reduceLeDiff, Nat.reduceEqDiff, Nat.reduceBEq, ↓reduceIte, reduceCtorEq]
        rw [tl.1]
        simp (maxSteps := 2000000) only [vcA, ↓vcP, ↓reduceIte, reduceCtorEq, Nat.reduceAdd, Nat.reduceMul, Nat.reduceSub, Nat.reduceLT, Nat.reduceLeDiff, Nat.reduceEqDiff, Nat.reduceBEq, Nat.reduceBNe, Nat.reduceGT, Nat.reduceDiv, Nat.reduceMod, Int.reduceAdd, Int.reduceSub, Int.reduceNeg, Int.reduceLT, Int.reduceLE, Int.reduceEq, Int.reduceToNat, fA, b0]
        refine onF_data (inS_spec y2 x2) ?_ ?_
        · simp (maxSteps := 2000000) only [okA, ↓okP, Nat.reduceAdd, Nat.reduceMul, Nat.reduceSub, Nat.reduceLT, Nat.reduceLeDiff, Nat.reduceEqDiff, Nat.reduceBEq, ↓reduceIte, reduceCtorEq]
        rw [tl.2.1]
        simp (maxSteps := 2000000) only [vcA, ↓vcP, ↓reduceIte, reduceCtorEq, Nat.reduceAdd, Nat.reduceMul, Nat.reduceSub, Nat.reduceLT, Nat.reduceLeDiff, Nat.reduceEqDiff, Nat.reduceBEq, Nat.reduceBNe, Nat.reduceGT, Nat.reduceDiv, Nat.reduceMod, Int.reduceAdd, Int.reduceSub, Int.reduceNeg, Int.reduceLT, Int.reduceLE, Int.reduceEq, Int.reduceToNat, fA, b0]
        refine onF_data (inS_spec y3 x3) ?_ ?_
        · simp (maxSteps := 2000000) only [okA, ↓okP, Nat.reduceAdd, Nat.reduceMul, Nat.reduceSub, Nat.reduceLT, Nat.reduceLeDiff, Nat.reduceEqDiff, Nat.reduceBEq, ↓reduceIte, reduceCtorEq]
        rw [tl.2.2]
        simp (maxSteps := 2000000) only [vcA, ↓vcP, ↓reduceIte, reduceCtorEq, Nat.reduceAdd, Nat.reduceMul, Nat.reduceSub, Nat.reduceLT, Nat.reduceLeDiff, Nat.reduceEqDiff, Nat.reduceBEq, Nat.reduceBNe, Nat.reduceGT, Nat.reduceDiv, Nat.reduceMod, Int.reduceAdd, Int.reduceSub, Int.reduceNeg, Int.reduceLT, Int.reduceLE, Int.reduceEq, Int.reduceToNat, fA, b0, sw1, sw2, y44]
        refine hB6 _ ⟨s + 1, by omega⟩ [] (by simp only; omega) rfl ?_
        simp (maxSteps := 2000000) only [enA, ↓enP, Nat.reduceAdd, Nat.reduceMul, Nat.reduceSub, Nat.reduceLT, Nat.reduceLeDiff, Nat.reduceEqDiff, Nat.reduceBEq, ↓reduceIte, reduceCtorEq, fA, rlA, es]
      replace cw : w < 3 := Decidable.not_not.1 cw
      have pw1 : ((w : Int) < 3) = True := eq_true (by omega)
      have pw2 : ((3 : Int) ≤ w) = False := eq_false (by omega)
      have ew : IntKind.i64.wrap ((w : Int) + 1) = ((w + 1 : Nat) : Int) := wrap_id (by omega) (by omega)
      simp (maxSteps := 2000000) only [vcA, ↓vcP, ↓reduceIte, reduceCtorEq, Nat.reduceAdd, Nat.reduceMul, Nat.reduceSub, Nat.reduceLT, Nat.reduceLeDiff, Nat.reduceEqDiff, Nat.reduceBEq, Nat.reduceBNe, Nat.reduceGT, Nat.reduceDiv, Nat.reduceMod, Int.reduceAdd, Int.reduceSub, Int.reduceNeg, Int.reduceLT, Int.reduceLE, Int.reduceEq, Int.reduceToNat, fA, pw1, pw2, ps1, ps2]
      refine ⟨by rw [rlA_len]; omega, fun _ => ?_⟩
      refine onF_data (left0_spec r w s cw cs hr) ?_ ?_
      · simp (maxSteps := 2000000) only [okA, ↓okP, Nat.reduceAdd, Nat.reduceMul, Nat.reduceSub, Nat.reduceLT, Nat.reduceLeDiff, Nat.reduceEqDiff, Nat.reduceBEq, ↓reduceIte, reduceCtorEq]
        exact rlA_low _ _ _ _
      have pl0 : (w * 2 + s * 1 + 1 ≤ (rlA r).length) = True := eq_true (by rw [rlA_len]; omega)
      have pl1 : (6 + w * 2 + s * 1 + 1 ≤ (rlA r).length) = True := eq_true (by rw [rlA_len]; omega)
      have pl2 : (12 + w * 2 + s * 1 + 1 ≤ (rlA r).length) = True := eq_true (by rw [rlA_len]; omega)
      have pl3 : (18 + w * 2 + s * 1 + 1 ≤ (rlA r).length) = True := eq_true (by rw [rlA_len]; omega)
      have pg0 := rlA_get r (n := w * 2 + s * 1) (by omega)
      have pg1 := rlA_get r (n := 6 + w * 2 + s * 1) (by omega)
      have pg2 := rlA_get r (n := 12 + w * 2 + s * 1) (by omega)
      have pg3 := rlA_get r (n := 18 + w * 2 + s * 1) (by omega)
      have ss1 := sum3_add hL cw (v := leftI r w s) rfl
      have ss2 := sum3_add hFn cw (v := r (12 + w * 2 + s * 1)) (by congr 1; omega)
      have ss3 := sum3_add hLo cw (v := r (18 + w * 2 + s * 1)) (by congr 1; omega)
      have ss4 := sum3_add2 hO hB1 cw (v := r (w * 2 + s * 1)) (u := r (6 + w * 2 + s * 1)) (by congr 1; omega) (by congr 1; omega)
      simp (maxSteps := 2000000) only [vcA, ↓vcP, ↓reduceIte, reduceCtorEq, Nat.reduceAdd, Nat.reduceMul, Nat.reduceSub, Nat.reduceLT, Nat.reduceLeDiff, Nat.reduceEqDiff, Nat.reduceBEq, Nat.reduceBNe, Nat.reduceGT, Nat.reduceDiv, Nat.reduceMod, Int.reduceAdd, Int.reduceSub, Int.reduceNeg, Int.reduceLT, Int.reduceLE, Int.reduceEq, Int.reduceToNat, fA, pw1, pw2, ps1, ps2, pl0, pl1, pl2, pl3, pg0, pg1, pg2, pg3, rlA_ids, List.flatMap_nil]
      refine hB8 _ ⟨w + 1, by omega⟩ [] (by simp only; omega) rfl ?_
      simp only [← ss1, ← ss2, ← ss3, ← ss4]
      simp (maxSteps := 2000000) only [enA, ↓enP, Nat.reduceAdd, Nat.reduceMul, Nat.reduceSub, Nat.reduceLT, Nat.reduceLeDiff, Nat.reduceEqDiff, Nat.reduceBEq, ↓reduceIte, reduceCtorEq, fA, rlA, ew]
    replace cw : w < 3 := Decidable.not_not.1 cw
    have pw1 : ((w : Int) < 3) = True := eq_true (by omega)
    have pw2 : ((3 : Int) ≤ w) = False := eq_false (by omega)
    have ew : IntKind.i64.wrap ((w : Int) + 1) = ((w + 1 : Nat) : Int) := wrap_id (by omega) (by omega)
    have pk := kbA_get1 (kN r lim 6) cw
    rw [kN_six r lim cw] at pk
    have pkl : (w * 1 + 1 ≤ (kbA (kN r lim 6)).length) = True := eq_true (by rw [kbA_len]; omega)
    have g1 := hk1 w cw
    have g2 := hk2 w cw
    simp (maxSteps := 2000000) only [vcA, ↓vcP, ↓reduceIte, reduceCtorEq, Nat.reduceAdd, Nat.reduceMul, Nat.reduceSub, Nat.reduceLT, Nat.reduceLeDiff, Nat.reduceEqDiff, Nat.reduceBEq, Nat.reduceBNe, Nat.reduceGT, Nat.reduceDiv, Nat.reduceMod, Int.reduceAdd, Int.reduceSub, Int.reduceNeg, Int.reduceLT, Int.reduceLE, Int.reduceEq, Int.reduceToNat, fA, pw1, pw2]
    refine onF_data (hasN_spec k1 w (by omega)) ?_ ?_
    · simp (maxSteps := 2000000) only [okA, ↓okP, Nat.reduceAdd, Nat.reduceMul, Nat.reduceSub, Nat.reduceLT, Nat.reduceLeDiff, Nat.reduceEqDiff, Nat.reduceBEq, ↓reduceIte, reduceCtorEq]
    cases hkt : keptT r lim w with
    | false =>
      have e1 : k1.contains (w : Int) = false := by
        cases hc : k1.contains (w : Int) with
        | false => rfl
        | true => rw [g1 hc] at hkt; exact absurd hkt (by decide)
      rw [e1]
      rw [hkt] at pk
      simp (maxSteps := 2000000) only [vcA, ↓vcP, ↓reduceIte, reduceCtorEq, Nat.reduceAdd, Nat.reduceMul, Nat.reduceSub, Nat.reduceLT, Nat.reduceLeDiff, Nat.reduceEqDiff, Nat.reduceBEq, Nat.reduceBNe, Nat.reduceGT, Nat.reduceDiv, Nat.reduceMod, Int.reduceAdd, Int.reduceSub, Int.reduceNeg, Int.reduceLT, Int.reduceLE, Int.reduceEq, Int.reduceToNat, fA, pw1, pw2, pk, pkl]
      refine hB4 _ ⟨w + 1, by omega⟩ [] (by simp only; omega) rfl ?_
      simp (maxSteps := 2000000) only [enA, ↓enP, Nat.reduceAdd, Nat.reduceMul, Nat.reduceSub, Nat.reduceLT, Nat.reduceLeDiff, Nat.reduceEqDiff, Nat.reduceBEq, ↓reduceIte, reduceCtorEq, fA, rlA, kbA, ew]
    | true =>
      rw [hkt] at pk
      have e2 := g2 hkt
      have g3 : ∀ c : Bool, c = true ∨ c = false := by decide
      rcases g3 (k1.contains (w : Int)) with g3 | g3
      all_goals
        rw [g3]
        simp (maxSteps := 2000000) only [vcA, ↓vcP, ↓reduceIte, reduceCtorEq, Nat.reduceAdd, Nat.reduceMul, Nat.reduceSub, Nat.reduceLT, Nat.reduceLeDiff, Nat.reduceEqDiff, Nat.reduceBEq, Nat.reduceBNe, Nat.reduceGT, Nat.reduceDiv, Nat.reduceMod, Int.reduceAdd, Int.reduceSub, Int.reduceNeg, Int.reduceLT, Int.reduceLE, Int.reduceEq, Int.reduceToNat, fA, pw1, pw2, pk, pkl]
        refine onF_data (hasN_spec k2 w (by omega)) ?_ ?_
        · simp (maxSteps := 2000000) only [okA, ↓okP, Nat.reduceAdd, Nat.reduceMul, Nat.reduceSub, Nat.reduceLT, Nat.reduceLeDiff, Nat.reduceEqDiff, Nat.reduceBEq, ↓reduceIte, reduceCtorEq]
        rw [e2]
        simp (maxSteps := 2000000) only [vcA, ↓vcP, ↓reduceIte, reduceCtorEq, Nat.reduceAdd, Nat.reduceMul, Nat.reduceSub, Nat.reduceLT, Nat.reduceLeDiff, Nat.reduceEqDiff, Nat.reduceBEq, Nat.reduceBNe, Nat.reduceGT, Nat.reduceDiv, Nat.reduceMod, Int.reduceAdd, Int.reduceSub, Int.reduceNeg, Int.reduceLT, Int.reduceLE, Int.reduceEq, Int.reduceToNat, fA]
        refine hB4 _ ⟨w + 1, by omega⟩ [] (by simp only; omega) rfl ?_
        simp (maxSteps := 2000000) only [enA, ↓enP, Nat.reduceAdd, Nat.reduceMul, Nat.reduceSub, Nat.reduceLT, Nat.reduceLeDiff, Nat.reduceEqDiff, Nat.reduceBEq, ↓reduceIte, reduceCtorEq, fA, rlA, kbA, ew]
  replace cw : w < 3 := Decidable.not_not.1 cw
  have pw1 : ((w : Int) < 3) = True := eq_true (by omega)
  have pw2 : ((3 : Int) ≤ w) = False := eq_false (by omega)
  have ew : IntKind.i64.wrap ((w : Int) + 1) = ((w + 1 : Nat) : Int) := wrap_id (by omega) (by omega)
  simp (maxSteps := 2000000) only [vcA, ↓vcP, ↓reduceIte, reduceCtorEq, Nat.reduceAdd, Nat.reduceMul, Nat.reduceSub, Nat.reduceLT, Nat.reduceLeDiff, Nat.reduceEqDiff, Nat.reduceBEq, Nat.reduceBNe, Nat.reduceGT, Nat.reduceDiv, Nat.reduceMod, Int.reduceAdd, Int.reduceSub, Int.reduceNeg, Int.reduceLT, Int.reduceLE, Int.reduceEq, Int.reduceToNat, fA, pw1, pw2]
  refine onF_data (copied_spec h l1 l2) ?_ ?_
  · simp (maxSteps := 2000000) only [okA, ↓okP, Nat.reduceAdd, Nat.reduceMul, Nat.reduceSub, Nat.reduceLT, Nat.reduceLeDiff, Nat.reduceEqDiff, Nat.reduceBEq, ↓reduceIte, reduceCtorEq]
  simp (maxSteps := 2000000) only [vcA, ↓vcP, ↓reduceIte, reduceCtorEq, Nat.reduceAdd, Nat.reduceMul, Nat.reduceSub, Nat.reduceLT, Nat.reduceLeDiff, Nat.reduceEqDiff, Nat.reduceBEq, Nat.reduceBNe, Nat.reduceGT, Nat.reduceDiv, Nat.reduceMod, Int.reduceAdd, Int.reduceSub, Int.reduceNeg, Int.reduceLT, Int.reduceLE, Int.reduceEq, Int.reduceToNat, fA]
  refine onF_data (lines_spec b l3) ?_ ?_
  · simp (maxSteps := 2000000) only [okA, ↓okP, Nat.reduceAdd, Nat.reduceMul, Nat.reduceSub, Nat.reduceLT, Nat.reduceLeDiff, Nat.reduceEqDiff, Nat.reduceBEq, ↓reduceIte, reduceCtorEq]
  simp (maxSteps := 2000000) only [vcA, ↓vcP, ↓reduceIte, reduceCtorEq, Nat.reduceAdd, Nat.reduceMul, Nat.reduceSub, Nat.reduceLT, Nat.reduceLeDiff, Nat.reduceEqDiff, Nat.reduceBEq, Nat.reduceBNe, Nat.reduceGT, Nat.reduceDiv, Nat.reduceMod, Int.reduceAdd, Int.reduceSub, Int.reduceNeg, Int.reduceLT, Int.reduceLE, Int.reduceEq, Int.reduceToNat, fA]
  have hH := hasF_spec h b w (by omega) (by omega) (by omega)
  rw [t.hasErr (by omega), t.hasR (by omega)] at hH
  refine onF_data hH ?_ ?_
  · simp (maxSteps := 2000000) only [okA, ↓okP, Nat.reduceAdd, Nat.reduceMul, Nat.reduceSub, Nat.reduceLT, Nat.reduceLeDiff, Nat.reduceEqDiff, Nat.reduceBEq, ↓reduceIte, reduceCtorEq]
  have hLL := hasL_len h b w 2
  simp (maxSteps := 2000000) only [vcA, ↓vcP, ↓reduceIte, reduceCtorEq, Nat.reduceAdd, Nat.reduceMul, Nat.reduceSub, Nat.reduceLT, Nat.reduceLeDiff, Nat.reduceEqDiff, Nat.reduceBEq, Nat.reduceBNe, Nat.reduceGT, Nat.reduceDiv, Nat.reduceMod, Int.reduceAdd, Int.reduceSub, Int.reduceNeg, Int.reduceLT, Int.reduceLE, Int.reduceEq, Int.reduceToNat, fA, hLL]
  refine goC_loop (α := {s : Nat // s ≤ 2}) (fun y => ⟨[(2, .v (.int .u8 lim)), (6, .v (.bool false)), (7, .ptr 80 0), (8, .sl 4 (b.map enR)), (9, .ptr 88 0), (10, .ptr 128 0), (11, .v (.int .i64 w)), (12, .sl 2 ((hasL h b w 2).map spR)), (14, .v (.int .i64 y.1))], [(80, .box 30 [.v (.int .i64 h.sc), .sl 2 (h.tk.map spR), .sl 1 (h.lo.map iR)]), (88, .box 35 (rlA r)), (128, .box 38 (kbA (kN r lim (2 * w + y.1))))]⟩) (fun y => 2 - y.1) ⟨0, by omega⟩ [] ?_ ?_
  · simp (maxSteps := 2000000) only [enA, ↓enP, Nat.reduceAdd, Nat.reduceMul, Nat.reduceSub, Nat.reduceLT, Nat.reduceLeDiff, Nat.reduceEqDiff, Nat.reduceBEq, ↓reduceIte, reduceCtorEq, fA, rlA, kbA]
    exact ⟨rfl, rfl, rfl, rfl⟩
  intro y B2 hB2
  obtain ⟨s, hs⟩ := y
  simp only at hB2 ⊢
  by_cases cs : ¬ s < 2
  · have s2 : s = 2 := by omega
    subst s2
    simp (maxSteps := 2000000) only [vcA, ↓vcP, ↓reduceIte, reduceCtorEq, Nat.reduceAdd, Nat.reduceMul, Nat.reduceSub, Nat.reduceLT, Nat.reduceLeDiff, Nat.reduceEqDiff, Nat.reduceBEq, Nat.reduceBNe, Nat.reduceGT, Nat.reduceDiv, Nat.reduceMod, Int.reduceAdd, Int.reduceSub, Int.reduceNeg, Int.reduceLT, Int.reduceLE, Int.reduceEq, Int.reduceToNat, fA, ew]
    refine hB _ ⟨w + 1, by omega⟩ [] (by simp only; omega) rfl ?_
    rw [show 2 * (w + 1) = 2 * w + 2 by omega]
    simp (maxSteps := 2000000) only [enA, ↓enP, Nat.reduceAdd, Nat.reduceMul, Nat.reduceSub, Nat.reduceLT, Nat.reduceLeDiff, Nat.reduceEqDiff, Nat.reduceBEq, ↓reduceIte, reduceCtorEq, fA, rlA, kbA]
  replace cs : s < 2 := Decidable.not_not.1 cs
  have ps1 : ((s : Int) < 2) = True := eq_true (by omega)
  have ps2 : ((2 : Int) ≤ s) = False := eq_false (by omega)
  have ps3 : (s < 2) = True := eq_true cs
  have es : IntKind.i64.wrap ((s : Int) + 1) = ((s + 1 : Nat) : Int) := wrap_id (by omega) (by omega)
  have th := t.has cw cs
  have tl := has_lo (acc h b w s nof)
  have hN := hasL_nth (h := h) (b := b) (w := w) (n := 2) cs
  obtain ⟨q, hq⟩ : ∃ q, q = has (acc h b w s nof) := ⟨_, rfl⟩
  rw [← hq] at th tl hN
  have hin : inS (leftI r w s) q = true := by unfold inS; simp; omega
  have q1 : (q.1 < 0) = False := eq_false (by omega)
  obtain ⟨K, hK⟩ : ∃ K, K = kN r lim (2 * w + s) := ⟨_, rfl⟩
  simp only [← hK]
  have eK : kN r lim (2 * w + (s + 1)) = setB K w (K w || decide (leftI r w s > lim)) := by
    rw [← Nat.add_assoc, kN, ← hK, show (2 * w + s) / 2 = w by omega, show (2 * w + s) % 2 = s by omega]
  have pk := kbA_get1 K cw
  have pkl : (w * 1 + 1 ≤ (kbA K).length) = True := eq_true (by rw [kbA_len]; omega)
  simp (maxSteps := 2000000) only [vcA, ↓vcP, ↓reduceIte, reduceCtorEq, Nat.reduceAdd, Nat.reduceMul, Nat.reduceSub, Nat.reduceLT, Nat.reduceLeDiff, Nat.reduceEqDiff, Nat.reduceBEq, Nat.reduceBNe, Nat.reduceGT, Nat.reduceDiv, Nat.reduceMod, Int.reduceAdd, Int.reduceSub, Int.reduceNeg, Int.reduceLT, Int.reduceLE, Int.reduceEq, Int.reduceToNat, fA, ps1, ps2, ps3]
  refine ⟨by rw [rlA_len]; omega, fun _ => ?_⟩
  refine onF_data (left0_spec r w s cw cs hr) ?_ ?_
  · simp (maxSteps := 2000000) only [okA, ↓okP, Nat.reduceAdd, Nat.reduceMul, Nat.reduceSub, Nat.reduceLT, Nat.reduceLeDiff, Nat.reduceEqDiff, Nat.reduceBEq, ↓reduceIte, reduceCtorEq]
    exact rlA_low _ _ _ _
  simp (maxSteps := 2000000) only [vcA, ↓vcP, ↓reduceIte, reduceCtorEq, Nat.reduceAdd, Nat.reduceMul, Nat.reduceSub, Nat.reduceLT, Nat.reduceLeDiff, Nat.reduceEqDiff, Nat.reduceBEq, Nat.reduceBNe, Nat.reduceGT, Nat.reduceDiv, Nat.reduceMod, Int.reduceAdd, Int.reduceSub, Int.reduceNeg, Int.reduceLT, Int.reduceLE, Int.reduceEq, Int.reduceToNat, fA, ps1, ps2, ps3, hLL, hN, spR, rlA_ids, List.flatMap_nil]
  refine onF_data (inS_spec (leftI r w s) q) ?_ ?_
  · simp (maxSteps := 2000000) only [okA, ↓okP, Nat.reduceAdd, Nat.reduceMul, Nat.reduceSub, Nat.reduceLT, Nat.reduceLeDiff, Nat.reduceEqDiff, Nat.reduceBEq, ↓reduceIte, reduceCtorEq]
  rw [hin]
  simp (maxSteps := 2000000) only [vcA, ↓vcP, ↓reduceIte, reduceCtorEq, Nat.reduceAdd, Nat.reduceMul, Nat.reduceSub, Nat.reduceLT, Nat.reduceLeDiff, Nat.reduceEqDiff, Nat.reduceBEq, Nat.reduceBNe, Nat.reduceGT, Nat.reduceDiv, Nat.reduceMod, Int.reduceAdd, Int.reduceSub, Int.reduceNeg, Int.reduceLT, Int.reduceLE, Int.reduceEq, Int.reduceToNat, fA, ps1, ps2, ps3, hLL, hN, spR, rlA_ids, List.flatMap_nil, q1]
  cases hKw : K w with
  | true =>
    rw [hKw] at pk
    rw [hKw, Bool.true_or] at eK
    simp (maxSteps := 2000000) only [vcA, ↓vcP, ↓reduceIte, reduceCtorEq, Nat.reduceAdd, Nat.reduceMul, Nat.reduceSub, Nat.reduceLT, Nat.reduceLeDiff, Nat.reduceEqDiff, Nat.reduceBEq, Nat.reduceBNe, Nat.reduceGT, Nat.reduceDiv, Nat.reduceMod, Int.reduceAdd, Int.reduceSub, Int.reduceNeg, Int.reduceLT, Int.reduceLE, Int.reduceEq, Int.reduceToNat, fA, ps1, ps2, ps3, hLL, hN, spR, rlA_ids, List.flatMap_nil, q1, pk, pkl, pw1, pw2, es]
    rw [kbA_put1 K cw]
    refine hB2 _ ⟨s + 1, by omega⟩ [] (by simp only; omega) rfl ?_
    simp only [eK]
    simp (maxSteps := 2000000) only [enA, ↓enP, Nat.reduceAdd, Nat.reduceMul, Nat.reduceSub, Nat.reduceLT, Nat.reduceLeDiff, Nat.reduceEqDiff, Nat.reduceBEq, ↓reduceIte, reduceCtorEq, fA, rlA, kbA]
  | false =>
    rw [hKw] at pk
    rw [hKw, Bool.false_or] at eK
    simp (maxSteps := 2000000) only [vcA, ↓vcP, ↓reduceIte, reduceCtorEq, Nat.reduceAdd, Nat.reduceMul, Nat.reduceSub, Nat.reduceLT, Nat.reduceLeDiff, Nat.reduceEqDiff, Nat.reduceBEq, Nat.reduceBNe, Nat.reduceGT, Nat.reduceDiv, Nat.reduceMod, Int.reduceAdd, Int.reduceSub, Int.reduceNeg, Int.reduceLT, Int.reduceLE, Int.reduceEq, Int.reduceToNat, fA, ps1, ps2, ps3, hLL, hN, spR, rlA_ids, List.flatMap_nil, q1, pk, pkl, pw1, pw2, es]
    refine ⟨by rw [rlA_len]; omega, fun _ => ?_⟩
    refine onF_data (left0_spec r w s cw cs hr) ?_ ?_
    · simp (maxSteps := 2000000) only [okA, ↓okP, Nat.reduceAdd, Nat.reduceMul, Nat.reduceSub, Nat.reduceLT, Nat.reduceLeDiff, Nat.reduceEqDiff, Nat.reduceBEq, ↓reduceIte, reduceCtorEq]
      exact rlA_low _ _ _ _
    simp (maxSteps := 2000000) only [vcA, ↓vcP, ↓reduceIte, reduceCtorEq, Nat.reduceAdd, Nat.reduceMul, Nat.reduceSub, Nat.reduceLT, Nat.reduceLeDiff, Nat.reduceEqDiff, Nat.reduceBEq, Nat.reduceBNe, Nat.reduceGT, Nat.reduceDiv, Nat.reduceMod, Int.reduceAdd, Int.reduceSub, Int.reduceNeg, Int.reduceLT, Int.reduceLE, Int.reduceEq, Int.reduceToNat, fA, pw1, pw2, pk, pkl, elim, es]
    rw [kbA_put1 K cw]
    refine hB2 _ ⟨s + 1, by omega⟩ [] (by simp only; omega) rfl ?_
    simp only [eK]
    simp (maxSteps := 2000000) only [enA, ↓enP, Nat.reduceAdd, Nat.reduceMul, Nat.reduceSub, Nat.reduceLT, Nat.reduceLeDiff, Nat.reduceEqDiff, Nat.reduceBEq, ↓reduceIte, reduceCtorEq, fA, rlA, kbA]
end Go.Proofs.Ytninkfpeeemcoaa.Ab.T07
