/- The walk of the law OutworkQuits. -/
import Derived.Test.YtninkfpeeemcoaaZS6
import Derived.Test.YtninkfpeeemcoaaZS9
namespace Go.Proofs.Ytninkfpeeemcoaa.Ab.T07
open Go Go.RowKit
set_option linter.unusedVariables false
set_option linter.unusedSimpArgs false
set_option maxRecDepth 100000
theorem shop_c {x : Sh} (hx : x.Ok) (l : List Int) : ∀ e ∈ bookX x l, e.c ≤ 9000 := stN_c hx l _ (Nat.le_refl _)
theorem linesF_spec (b : List En) (hb : b.length < 1000) : SpecF Try.prog 11 [.sl 4 (b.map enR)] (.ob 0 b.length) [.row 60 4 (b.map enR) false] := lines1_spec b hb
set_option pp.maxSteps 1000000
set_option pp.deepTerms true
set_option maxHeartbeats 4000000 in
theorem quits_spec (x : Sh) (l : List Int) (who : Int) (hx : x.Ok) (hl : ∀ n ∈ l, By n) (hwho : By who) : SpecF Try.prog 7 [.agg (shA x), .sl 1 (l.map u8R), .v (.int .u8 who)] (.v (.bool true)) [] := by
  have t := shop_tru hx hl
  have hb9 := shop_c hx l
  have hS := shopF_spec x l hx hl
  obtain ⟨h, hh⟩ : ∃ h, h = houseX x := ⟨_, rfl⟩
  obtain ⟨b, hb⟩ : ∃ b, b = bookX x l := ⟨_, rfl⟩
  obtain ⟨r, hr0⟩ : ∃ r, r = realX x l := ⟨_, rfl⟩
  rw [← hh, ← hb, ← hr0] at t hS
  rw [← hb] at hb9
  clear hh hb hr0
  have l1 : h.tk.length < 1000 := by have := t.two; omega
  have l2 : h.lo.length < 1000 := by have := t.two; have := t.t.ok.hs.lo; omega
  have l3 : b.length < 1000 := by have := t.t.ten; omega
  have l4 := t.t.ten
  unfold By at hwho
  have b0 : ((0 : Int) == 0) = true := rfl
  have e1 : IntKind.i64.wrap who = who := wrap_id (by omega) (by omega)
  obtain ⟨w, hw⟩ : ∃ w : Nat, w = (who % 3).toNat := ⟨_, rfl⟩
  have e2 : who.tmod 3 = (w : Int) := by rw [Int.tmod_eq_emod_of_nonneg (by omega)]; omega
  have w3 : w < 3 := by omega
  have e3 : IntKind.i64.wrap (w : Int) = w := wrap_id (by omega) (by omega)
  have hSe := settleF_spec h b w (by omega) (by omega) (by omega)
  rw [t.settleErr hb9 (by omega), t.settleR hb9 (by omega)] at hSe
  have hSn := fun s hs => settle_nth t w (s := s) hs
  have hSl : ((hasL h b w 2).map (settleI h)).length = 2 := by rw [List.length_map, hasL_len]
  obtain ⟨S, hSd⟩ : ∃ S, S = (hasL h b w 2).map (settleI h) := ⟨_, rfl⟩
  rw [← hSd] at hSe hSl
  simp only [← hSd] at hSn
  clear hSd
  unfold shA at *
  refine spec_go (N := 191) (rs := [.tmp 6]) (eq := eqs) rfl rfl fun_7 rfl (by kernel_rfl) (by kernel_rfl) (by simp) (by simp) (by simp) (by simp) fun R hR => ?_
  simp (maxSteps := 2000000) only [vcA, ↓vcP, ↓reduceIte, reduceCtorEq, Nat.reduceAdd, Nat.reduceMul, Nat.reduceSub, Nat.reduceLT, Nat.reduceLeDiff, Nat.reduceEqDiff, Nat.reduceBEq, Nat.reduceBNe, Nat.reduceGT, Nat.reduceDiv, Nat.reduceMod, Int.reduceAdd, Int.reduceSub, Int.reduceNeg, Int.reduceLT, Int.reduceLE, Int.reduceEq, Int.reduceToNat, fA]
  refine onF_data hS ?_ ?_
  · simp (maxSteps := 2000000) only [okA, ↓okP, Nat.reduceAdd, Nat.reduceMul, Nat.reduceSub, Nat.reduceLT, Nat.reduceLeDiff, Nat.reduceEqDiff, Nat.reduceBEq, ↓reduceIte, reduceCtorEq]
  simp (maxSteps := 2000000) only [vcA, ↓vcP, ↓reduceIte, reduceCtorEq, Nat.reduceAdd, Nat.reduceMul, Nat.reduceSub, Nat.reduceLT, Nat.reduceLeDiff, Nat.reduceEqDiff, Nat.reduceBEq, Nat.reduceBNe, Nat.reduceGT, Nat.reduceDiv, Nat.reduceMod, Int.reduceAdd, Int.reduceSub, Int.reduceNeg, Int.reduceLT, Int.reduceLE, Int.reduceEq, Int.reduceToNat, fA, e1, e2, e3]
  refine ⟨rlA_len r, fun _ => ?_⟩
  refine onF_data (copied_spec h l1 l2) ?_ ?_
  · simp (maxSteps := 2000000) only [okA, ↓okP, Nat.reduceAdd, Nat.reduceMul, Nat.reduceSub, Nat.reduceLT, Nat.reduceLeDiff, Nat.reduceEqDiff, Nat.reduceBEq, ↓reduceIte, reduceCtorEq]
  simp (maxSteps := 2000000) only [vcA, ↓vcP, ↓reduceIte, reduceCtorEq, Nat.reduceAdd, Nat.reduceMul, Nat.reduceSub, Nat.reduceLT, Nat.reduceLeDiff, Nat.reduceEqDiff, Nat.reduceBEq, Nat.reduceBNe, Nat.reduceGT, Nat.reduceDiv, Nat.reduceMod, Int.reduceAdd, Int.reduceSub, Int.reduceNeg, Int.reduceLT, Int.reduceLE, Int.reduceEq, Int.reduceToNat, fA]
  refine onF_data (lines_spec b l3) ?_ ?_
  · simp (maxSteps := 2000000) only [okA, ↓okP, Nat.reduceAdd, Nat.reduceMul, Nat.reduceSub, Nat.reduceLT, Nat.reduceLeDiff, Nat.reduceEqDiff, Nat.reduceBEq, ↓reduceIte, reduceCtorEq]
  simp (maxSteps := 2000000) only [vcA, ↓vcP, ↓reduceIte, reduceCtorEq, Nat.reduceAdd, Nat.reduceMul, Nat.reduceSub, Nat.reduceLT, Nat.reduceLeDiff, Nat.reduceEqDiff, Nat.reduceBEq, Nat.reduceBNe, Nat.reduceGT, Nat.reduceDiv, Nat.reduceMod, Int.reduceAdd, Int.reduceSub, Int.reduceNeg, Int.reduceLT, Int.reduceLE, Int.reduceEq, Int.reduceToNat, fA]
  refine onF_data hSe ?_ ?_
  · simp (maxSteps := 2000000) only [okA, ↓okP, Nat.reduceAdd, Nat.reduceMul, Nat.reduceSub, Nat.reduceLT, Nat.reduceLeDiff, Nat.reduceEqDiff, Nat.reduceBEq, ↓reduceIte, reduceCtorEq]
  simp (maxSteps := 2000000) only [vcA, ↓vcP, ↓reduceIte, reduceCtorEq, Nat.reduceAdd, Nat.reduceMul, Nat.reduceSub, Nat.reduceLT, Nat.reduceLeDiff, Nat.reduceEqDiff, Nat.reduceBEq, Nat.reduceBNe, Nat.reduceGT, Nat.reduceDiv, Nat.reduceMod, Int.reduceAdd, Int.reduceSub, Int.reduceNeg, Int.reduceLT, Int.reduceLE, Int.reduceEq, Int.reduceToNat, fA, hSl]
  refine goC_loop (α := {s : Nat // s ≤ 2}) (fun y => ⟨[(6, .v (.bool false)), (7, .ptr 80 0), (8, .sl 4 (b.map enR)), (10, .v (.int .i64 w)), (11, .sl 1 (S.map iR)), (13, .v (.int .i64 y.1))], [(80, .box 30 [.v (.int .i64 h.sc), .sl 2 (h.tk.map spR), .sl 1 (h.lo.map iR)])]⟩) (fun y => 2 - y.1) ⟨0, by omega⟩ [] ?_ ?_
  · simp (maxSteps := 2000000) only [enA, ↓enP, Nat.reduceAdd, Nat.reduceMul, Nat.reduceSub, Nat.reduceLT, Nat.reduceLeDiff, Nat.reduceEqDiff, Nat.reduceBEq, ↓reduceIte, reduceCtorEq, fA]
    rfl
  intro y B hB
  obtain ⟨s, hs⟩ := y
  simp only at hB ⊢
  by_cases cs : ¬ s < 2
  · have s2 : s = 2 := by omega
    subst s2
    simp (maxSteps := 2000000) only [vcA, ↓vcP, ↓reduceIte, reduceCtorEq, Nat.reduceAdd, Nat.reduceMul, Nat.reduceSub, Nat.reduceLT, Nat.reduceLeDiff, Nat.reduceEqDiff, Nat.reduceBEq, Nat.reduceBNe, Nat.reduceGT, Nat.reduceDiv, Nat.reduceMod, Int.reduceAdd, Int.reduceSub, Int.reduceNeg, Int.reduceLT, Int.reduceLE, Int.reduceEq, Int.reduceToNat, fA]
    refine onF_data known_spec ?_ ?_
    · simp (maxSteps := 2000000) only [okA, ↓okP, Nat.reduceAdd, Nat.reduceMul, Nat.reduceSub, Nat.reduceLT, Nat.reduceLeDiff, Nat.reduceEqDiff, Nat.reduceBEq, ↓reduceIte, reduceCtorEq]
    simp (maxSteps := 2000000) only [vcA, ↓vcP, ↓reduceIte, reduceCtorEq, Nat.reduceAdd, Nat.reduceMul, Nat.reduceSub, Nat.reduceLT, Nat.reduceLeDiff, Nat.reduceEqDiff, Nat.reduceBEq, Nat.reduceBNe, Nat.reduceGT, Nat.reduceDiv, Nat.reduceMod, Int.reduceAdd, Int.reduceSub, Int.reduceNeg, Int.reduceLT, Int.reduceLE, Int.reduceEq, Int.reduceToNat, fA]
    refine hR _ (fin_of0 ?_)
    simp (maxSteps := 2000000) only [enA, ↓enP, Nat.reduceAdd, Nat.reduceMul, Nat.reduceSub, Nat.reduceLT, Nat.reduceLeDiff, Nat.reduceEqDiff, Nat.reduceBEq, ↓reduceIte, reduceCtorEq, fA]
  replace cs : s < 2 := Decidable.not_not.1 cs
  have ps1 : ((s : Int) < 2) = True := eq_true (by omega)
  have ps2 : ((2 : Int) ≤ s) = False := eq_false (by omega)
  have ps3 : (s < 2) = True := eq_true cs
  have es : IntKind.i64.wrap ((s : Int) + 1) = ((s + 1 : Nat) : Int) := wrap_id (by omega) (by omega)
  have hW := weigh_spec h b s (by omega) (by omega) (by omega)
  rw [(t.weigh cs).1, (t.weigh cs).2] at hW
  have hwn : ∀ n, weighN h b s (n + 1) = if (has (acc h b n s nof)).2 - (has (acc h b n s nof)).1 > (weighN h b s n).2 then ((n : Int), (has (acc h b n s nof)).2 - (has (acc h b n s nof)).1) else weighN h b s n := fun n => rfl
  have hw0 : weighN h b s 0 = (0, 0) := rfl
  have hwb : ∀ n, 0 ≤ (weighN h b s n).2 := fun n => (weighN_nn h b s n).1
  obtain ⟨W, hWd⟩ : ∃ W, W = weighN h b s := ⟨_, rfl⟩
  rw [← hWd] at hW hwn hw0 hwb
  clear hWd
  simp (maxSteps := 2000000) only [vcA, ↓vcP, ↓reduceIte, reduceCtorEq, Nat.reduceAdd, Nat.reduceMul, Nat.reduceSub, Nat.reduceLT, Nat.reduceLeDiff, Nat.reduceEqDiff, Nat.reduceBEq, Nat.reduceBNe, Nat.reduceGT, Nat.reduceDiv, Nat.reduceMod, Int.reduceAdd, Int.reduceSub, Int.reduceNeg, Int.reduceLT, Int.reduceLE, Int.reduceEq, Int.reduceToNat, fA, ps1, ps2]
  refine onF_data (copied_spec h l1 l2) ?_ ?_
  · simp (maxSteps := 2000000) only [okA, ↓okP, Nat.reduceAdd, Nat.reduceMul, Nat.reduceSub, Nat.reduceLT, Nat.reduceLeDiff, Nat.reduceEqDiff, Nat.reduceBEq, ↓reduceIte, reduceCtorEq]
  simp (maxSteps := 2000000) only [vcA, ↓vcP, ↓reduceIte, reduceCtorEq, Nat.reduceAdd, Nat.reduceMul, Nat.reduceSub, Nat.reduceLT, Nat.reduceLeDiff, Nat.reduceEqDiff, Nat.reduceBEq, Nat.reduceBNe, Nat.reduceGT, Nat.reduceDiv, Nat.reduceMod, Int.reduceAdd, Int.reduceSub, Int.reduceNeg, Int.reduceLT, Int.reduceLE, Int.reduceEq, Int.reduceToNat, fA]
  refine onF_data (lines_spec b l3) ?_ ?_
  · simp (maxSteps := 2000000) only [okA, ↓okP, Nat.reduceAdd, Nat.reduceMul, Nat.reduceSub, Nat.reduceLT, Nat.reduceLeDiff, Nat.reduceEqDiff, Nat.reduceBEq, ↓reduceIte, reduceCtorEq]
  simp (maxSteps := 2000000) only [vcA, ↓vcP, ↓reduceIte, reduceCtorEq, Nat.reduceAdd, Nat.reduceMul, Nat.reduceSub, Nat.reduceLT, Nat.reduceLeDiff, Nat.reduceEqDiff, Nat.reduceBEq, Nat.reduceBNe, Nat.reduceGT, Nat.reduceDiv, Nat.reduceMod, Int.reduceAdd, Int.reduceSub, Int.reduceNeg, Int.reduceLT, Int.reduceLE, Int.reduceEq, Int.reduceToNat, fA]
  refine onF_data hW ?_ ?_
  · simp (maxSteps := 2000000) only [okA, ↓okP, Nat.reduceAdd, Nat.reduceMul, Nat.reduceSub, Nat.reduceLT, Nat.reduceLeDiff, Nat.reduceEqDiff, Nat.reduceBEq, ↓reduceIte, reduceCtorEq]
  simp (maxSteps := 2000000) only [vcA, ↓vcP, ↓reduceIte, reduceCtorEq, Nat.reduceAdd, Nat.reduceMul, Nat.reduceSub, Nat.reduceLT, Nat.reduceLeDiff, Nat.reduceEqDiff, Nat.reduceBEq, Nat.reduceBNe, Nat.reduceGT, Nat.reduceDiv, Nat.reduceMod, Int.reduceAdd, Int.reduceSub, Int.reduceNeg, Int.reduceLT, Int.reduceLE, Int.reduceEq, Int.reduceToNat, fA]
  refine goC_loop (α := {k : Nat // k ≤ 6}) (fun y => ⟨[(6, .v (.bool false)), (7, .ptr 80 0), (8, .sl 4 (b.map enR)), (10, .v (.int .i64 w)), (11, .sl 1 (S.map iR)), (13, .v (.int .i64 s)), (14, .v (.int .i64 (W 6).1)), (15, .v (.int .i64 (W 6).2)), (16, .v (.int .i64 (if (W 6).2 = 0 then 7 else 0))), (17, .v (.int .i64 (W y.1).2)), (18, .v (.int .i64 (W y.1).1)), (19, .v (.int .i64 y.1))], [(80, .box 30 [.v (.int .i64 h.sc), .sl 2 (h.tk.map spR), .sl 1 (h.lo.map iR)])]⟩) (fun y => 6 - y.1) ⟨0, by omega⟩ [] ?_ ?_
  · simp (maxSteps := 2000000) only [enA, ↓enP, Nat.reduceAdd, Nat.reduceMul, Nat.reduceSub, Nat.reduceLT, Nat.reduceLeDiff, Nat.reduceEqDiff, Nat.reduceBEq, ↓reduceIte, reduceCtorEq, fA, hw0]
    rfl
  intro y B2 hB2
  obtain ⟨k, hk⟩ := y
  simp only at hB2 ⊢
  by_cases ck : ¬ k < 6
  · have k6 : k = 6 := by omega
    subst k6
    have hz := hwb 6
    generalize W 6 = q at *
    have qz : ∀ n : Int, (n != n) = false := fun n => by simp
    clear hB2 hwn hwb hw0
    have zz : ((q.2 == 0) = true ∧ (q.2 > 0) = False ∧ (if q.2 = 0 then (7 : Int) else 0) = 7) ∨ ((q.2 == 0) = false ∧ (q.2 > 0) = True ∧ (if q.2 = 0 then (7 : Int) else 0) = 0) := by
      by_cases cz : q.2 = 0
      · exact .inl ⟨by rw [cz]; rfl, eq_false (by omega), if_pos cz⟩
      · exact .inr ⟨by simpa using cz, eq_true (by omega), if_neg cz⟩
    rcases zz with ⟨z1, z2, z3⟩ | ⟨z1, z2, z3⟩
    all_goals
      rw [z3]
      simp (maxSteps := 2000000) only [vcA, ↓vcP, ↓reduceIte, reduceCtorEq, Nat.reduceAdd, Nat.reduceMul, Nat.reduceSub, Nat.reduceLT, Nat.reduceLeDiff, Nat.reduceEqDiff, Nat.reduceBEq, Nat.reduceBNe, Nat.reduceGT, Nat.reduceDiv, Nat.reduceMod, Int.reduceAdd, Int.reduceSub, Int.reduceNeg, Int.reduceLT, Int.reduceLE, Int.reduceEq, Int.reduceToNat, fA, z1, z2, qz]
      refine goC_loop (α := {k : Nat // k ≤ 2}) (fun y => ⟨[(6, .v (.bool false)), (7, .ptr 80 0), (8, .sl 4 (b.map enR)), (10, .v (.int .i64 w)), (11, .sl 1 (S.map iR)), (13, .v (.int .i64 s)), (22, .v (.int .i64 y.1))], [(80, .box 30 [.v (.int .i64 h.sc), .sl 2 (h.tk.map spR), .sl 1 (h.lo.map iR)])]⟩) (fun y => 2 - y.1) ⟨0, by omega⟩ [] ?_ ?_
      · simp (maxSteps := 2000000) only [enA, ↓enP, Nat.reduceAdd, Nat.reduceMul, Nat.reduceSub, Nat.reduceLT, Nat.reduceLeDiff, Nat.reduceEqDiff, Nat.reduceBEq, ↓reduceIte, reduceCtorEq, fA]
        rfl
      intro y B4 hB4
      obtain ⟨k, hk⟩ := y
      simp only at hB4 ⊢
      by_cases ck : ¬ k < 2
      · have k2 : k = 2 := by omega
        subst k2
        simp (maxSteps := 2000000) only [vcA, ↓vcP, ↓reduceIte, reduceCtorEq, Nat.reduceAdd, Nat.reduceMul, Nat.reduceSub, Nat.reduceLT, Nat.reduceLeDiff, Nat.reduceEqDiff, Nat.reduceBEq, Nat.reduceBNe, Nat.reduceGT, Nat.reduceDiv, Nat.reduceMod, Int.reduceAdd, Int.reduceSub, Int.reduceNeg, Int.reduceLT, Int.reduceLE, Int.reduceEq, Int.reduceToNat, fA]
        refine hB _ ⟨s + 1, by omega⟩ [] (by simp only; omega) rfl ?_
        simp (maxSteps := 2000000) only [enA, ↓enP, Nat.reduceAdd, Nat.reduceMul, Nat.reduceSub, Nat.reduceLT, Nat.reduceLeDiff, Nat.reduceEqDiff, Nat.reduceBEq, ↓reduceIte, reduceCtorEq, fA, es]
      replace ck : k < 2 := Decidable.not_not.1 ck
      have pk1 : ((k : Int) < 2) = True := eq_true (by omega)
      have pk2 : ((2 : Int) ≤ k) = False := eq_false (by omega)
      have ek : IntKind.i64.wrap ((k : Int) + 1) = ((k + 1 : Nat) : Int) := wrap_id (by omega) (by omega)
      obtain ⟨c, hc⟩ : ∃ c, c = nth S s - k := ⟨_, rfl⟩
      have hq := tru_quit t hb9 w3 cs ck (c := c) (by rw [hc, hSn s cs])
      have hCb : 0 ≤ nth S s ∧ nth S s ≤ 91000 := by
        rw [hSn s cs]
        have a := t.small hb9 w cs
        have sc := t.t.ok.hs.sc
        unfold settleI
        have e : (has (acc h b w s nof)).2 = high (acc h b w s nof) := rfl
        rw [e]
        split <;> omega
      have ec : IntKind.i64.wrap (nth S s - k) = c := by rw [hc]; exact wrap_id (by omega) (by omega)
      by_cases cc : c < 0
      · have c1 : (c < 0) = True := eq_true cc
        have c2 : (0 ≤ c) = False := eq_false (by omega)
        simp (maxSteps := 2000000) only [vcA, ↓vcP, ↓reduceIte, reduceCtorEq, Nat.reduceAdd, Nat.reduceMul, Nat.reduceSub, Nat.reduceLT, Nat.reduceLeDiff, Nat.reduceEqDiff, Nat.reduceBEq, Nat.reduceBNe, Nat.reduceGT, Nat.reduceDiv, Nat.reduceMod, Int.reduceAdd, Int.reduceSub, Int.reduceNeg, Int.reduceLT, Int.reduceLE, Int.reduceEq, Int.reduceToNat, fA, pk1, pk2, hSl, ps1, ps3, iR, ec, c1, c2]
        refine hB4 _ ⟨k + 1, by omega⟩ [] (by simp only; omega) rfl ?_
        simp (maxSteps := 2000000) only [enA, ↓enP, Nat.reduceAdd, Nat.reduceMul, Nat.reduceSub, Nat.reduceLT, Nat.reduceLeDiff, Nat.reduceEqDiff, Nat.reduceBEq, ↓reduceIte, reduceCtorEq, fA, ek]
      have c1 : (c < 0) = False := eq_false cc
      have c2 : (0 ≤ c) = True := eq_true (by omega)
      obtain ⟨q1, q2, q3, q4⟩ := hq (by omega)
      simp (maxSteps := 2000000) only [vcA, ↓vcP, ↓reduceIte, reduceCtorEq, Nat.reduceAdd, Nat.reduceMul, Nat.reduceSub, Nat.reduceLT, Nat.reduceLeDiff, Nat.reduceEqDiff, Nat.reduceBEq, Nat.reduceBNe, Nat.reduceGT, Nat.reduceDiv, Nat.reduceMod, Int.reduceAdd, Int.reduceSub, Int.reduceNeg, Int.reduceLT, Int.reduceLE, Int.reduceEq, Int.reduceToNat, fA, pk1, pk2, hSl, ps1, ps3, iR, ec, c1, c2]
      refine onF_data (copied_spec h l1 l2) ?_ ?_
      · simp (maxSteps := 2000000) only [okA, ↓okP, Nat.reduceAdd, Nat.reduceMul, Nat.reduceSub, Nat.reduceLT, Nat.reduceLeDiff, Nat.reduceEqDiff, Nat.reduceBEq, ↓reduceIte, reduceCtorEq]
      simp (maxSteps := 2000000) only [vcA, ↓vcP, ↓reduceIte, reduceCtorEq, Nat.reduceAdd, Nat.reduceMul, Nat.reduceSub, Nat.reduceLT, Nat.reduceLeDiff, Nat.reduceEqDiff, Nat.reduceBEq, Nat.reduceBNe, Nat.reduceGT, Nat.reduceDiv, Nat.reduceMod, Int.reduceAdd, Int.reduceSub, Int.reduceNeg, Int.reduceLT, Int.reduceLE, Int.reduceEq, Int.reduceToNat, fA]
      refine onF_call (linesF_spec b l3) [] [] [] ?_ ?_
      · simp (maxSteps := 2000000) only [okA, ↓okP, Nat.reduceAdd, Nat.reduceMul, Nat.reduceSub, Nat.reduceLT, Nat.reduceLeDiff, Nat.reduceEqDiff, Nat.reduceBEq, ↓reduceIte, reduceCtorEq]
      simp (maxSteps := 2000000) only [vcA, ↓vcP, ↓reduceIte, reduceCtorEq, Nat.reduceAdd, Nat.reduceMul, Nat.reduceSub, Nat.reduceLT, Nat.reduceLeDiff, Nat.reduceEqDiff, Nat.reduceBEq, Nat.reduceBNe, Nat.reduceGT, Nat.reduceDiv, Nat.reduceMod, Int.reduceAdd, Int.reduceSub, Int.reduceNeg, Int.reduceLT, Int.reduceLE, Int.reduceEq, Int.reduceToNat, fA]
      refine ⟨⟨by omega, by simp only [maxLen]; omega⟩, fun _ => ?_⟩
      have hH := hasF_spec h (backB b w s c) w (by omega) (by omega) (by unfold backB; simp; omega)
      rw [q1, q2] at hH
      have eB : (backB b w s c).map enR = b.map enR ++ [[.v (.int .i64 w), .v (.int .i64 2), .v (.int .i64 s), .v (.int .i64 c)]] := by simp [backB, enR]
      have hLL := hasL_len h (backB b w s c) w 2
      have hN := hasL_nth (h := h) (b := backB b w s c) (w := w) (n := 2) cs
      have g0 := has_lo (acc h (backB b w s c) w s nof)
      generalize hasL h (backB b w s c) w 2 = HL at *
      generalize has (acc h (backB b w s c) w s nof) = p at *
      rw [eB] at hH
      have n1 : (true != true) = false := rfl
      have n2 : (false != false) = false := rfl
      refine onF_call hH [920] [] [] ?_ ?_
      · simp (maxSteps := 2000000) only [okA, ↓okP, Nat.reduceAdd, Nat.reduceMul, Nat.reduceSub, Nat.reduceLT, Nat.reduceLeDiff, Nat.reduceEqDiff, Nat.reduceBEq, ↓reduceIte, reduceCtorEq]
      by_cases k0 : k = 0
      · have kz : ((k : Int) == 0) = true := by rw [k0]; rfl
        have g1 : (p.1 == 0) = true := by simpa using (q3 k0).1
        have g2 : (p.2 ≤ h.sc) = True := eq_true (q3 k0).2
        have g3 : (h.sc < p.2) = False := eq_false (by have := (q3 k0).2; omega)
        simp (maxSteps := 2000000) only [vcA, ↓vcP, ↓reduceIte, reduceCtorEq, Nat.reduceAdd, Nat.reduceMul, Nat.reduceSub, Nat.reduceLT, Nat.reduceLeDiff, Nat.reduceEqDiff, Nat.reduceBEq, Nat.reduceBNe, Nat.reduceGT, Nat.reduceDiv, Nat.reduceMod, Int.reduceAdd, Int.reduceSub, Int.reduceNeg, Int.reduceLT, Int.reduceLE, Int.reduceEq, Int.reduceToNat, fA, hLL, hN, spR, ps1, ps3, kz, g1, g2, g3, n1, n2, b0]
        refine hB4 _ ⟨k + 1, by omega⟩ [] (by simp only; omega) rfl ?_
        simp (maxSteps := 2000000) only [enA, ↓enP, Nat.reduceAdd, Nat.reduceMul, Nat.reduceSub, Nat.reduceLT, Nat.reduceLeDiff, Nat.reduceEqDiff, Nat.reduceBEq, ↓reduceIte, reduceCtorEq, fA, ek]
      have k1 : k = 1 := by omega
      have kz : ((k : Int) == 0) = false := by rw [k1]; rfl
      have g2 : (p.2 ≤ h.sc) = False := eq_false (q4 k1)
      have g3 : (h.sc < p.2) = True := eq_true (by have := q4 k1; omega)
      have gg : (p.1 == 0) = true ∨ (p.1 == 0) = false := by cases (p.1 == 0) <;> simp
      rcases gg with g1 | g1
      · simp (maxSteps := 2000000) only [vcA, ↓vcP, ↓reduceIte, reduceCtorEq, Nat.reduceAdd, Nat.reduceMul, Nat.reduceSub, Nat.reduceLT, Nat.reduceLeDiff, Nat.reduceEqDiff, Nat.reduceBEq, Nat.reduceBNe, Nat.reduceGT, Nat.reduceDiv, Nat.reduceMod, Int.reduceAdd, Int.reduceSub, Int.reduceNeg, Int.reduceLT, Int.reduceLE, Int.reduceEq, Int.reduceToNat, fA, hLL, hN, spR, ps1, ps3, kz, g1, g2, g3, n1, n2, b0]
        refine hB4 _ ⟨k + 1, by omega⟩ [] (by simp only; omega) rfl ?_
        simp (maxSteps := 2000000) only [enA, ↓enP, Nat.reduceAdd, Nat.reduceMul, Nat.reduceSub, Nat.reduceLT, Nat.reduceLeDiff, Nat.reduceEqDiff, Nat.reduceBEq, ↓reduceIte, reduceCtorEq, fA, ek]
      · simp (maxSteps := 2000000) only [vcA, ↓vcP, ↓reduceIte, reduceCtorEq, Nat.reduceAdd, Nat.reduceMul, Nat.reduceSub, Nat.reduceLT, Nat.reduceLeDiff, Nat.reduceEqDiff, Nat.reduceBEq, Nat.reduceBNe, Nat.reduceGT, Nat.reduceDiv, Nat.reduceMod, Int.reduceAdd, Int.reduceSub, Int.reduceNeg, Int.reduceLT, Int.reduceLE, Int.reduceEq, Int.reduceToNat, fA, hLL, hN, spR, ps1, ps3, kz, g1, g2, g3, n1, n2, b0]
        refine hB4 _ ⟨k + 1, by omega⟩ [] (by simp only; omega) rfl ?_
        simp (maxSteps := 2000000) only [enA, ↓enP, Nat.reduceAdd, Nat.reduceMul, Nat.reduceSub, Nat.reduceLT, Nat.reduceLeDiff, Nat.reduceEqDiff, Nat.reduceBEq, ↓reduceIte, reduceCtorEq, fA, ek]
  replace ck : k < 6 := Decidable.not_not.1 ck
  have pk1 : ((k : Int) < 6) = True := eq_true (by omega)
  have pk2 : ((6 : Int) ≤ k) = False := eq_false (by omega)
  have ek : IntKind.i64.wrap ((k : Int) + 1) = ((k + 1 : Nat) : Int) := wrap_id (by omega) (by omega)
  have hH := hasF_spec h b k (by omega) (by omega) (by omega)
  rw [t.hasErr (by omega), t.hasR (by omega)] at hH
  have hLL := hasL_len h b k 2
  have hN := hasL_nth (h := h) (b := b) (w := k) (n := 2) cs
  have hwk := hwn k
  have hlo := has_lo (acc h b k s nof)
  have hhi : (has (acc h b k s nof)).2 ≤ 91000 := t.small hb9 k cs
  have hle : 0 ≤ (has (acc h b k s nof)).2 := t.high0 k cs
  have hle2 := has_le (acc_bd t.t.ok (w := k) (s := s) (by have := t.two; omega) nof) (t.high0 k cs)
  generalize has (acc h b k s nof) = q at *
  have ew : IntKind.i64.wrap (q.2 - q.1) = q.2 - q.1 := wrap_id (by omega) (by omega)
  simp (maxSteps := 2000000) only [vcA, ↓vcP, ↓reduceIte, reduceCtorEq, Nat.reduceAdd, Nat.reduceMul, Nat.reduceSub, Nat.reduceLT, Nat.reduceLeDiff, Nat.reduceEqDiff, Nat.reduceBEq, Nat.reduceBNe, Nat.reduceGT, Nat.reduceDiv, Nat.reduceMod, Int.reduceAdd, Int.reduceSub, Int.reduceNeg, Int.reduceLT, Int.reduceLE, Int.reduceEq, Int.reduceToNat, fA, pk1, pk2]
  refine onF_data (copied_spec h l1 l2) ?_ ?_
  · simp (maxSteps := 2000000) only [okA, ↓okP, Nat.reduceAdd, Nat.reduceMul, Nat.reduceSub, Nat.reduceLT, Nat.reduceLeDiff, Nat.reduceEqDiff, Nat.reduceBEq, ↓reduceIte, reduceCtorEq]
  simp (maxSteps := 2000000) only [vcA, ↓vcP, ↓reduceIte, reduceCtorEq, Nat.reduceAdd, Nat.reduceMul, Nat.reduceSub, Nat.reduceLT, Nat.reduceLeDiff, Nat.reduceEqDiff, Nat.reduceBEq, Nat.reduceBNe, Nat.reduceGT, Nat.reduceDiv, Nat.reduceMod, Int.reduceAdd, Int.reduceSub, Int.reduceNeg, Int.reduceLT, Int.reduceLE, Int.reduceEq, Int.reduceToNat, fA]
  refine onF_data (lines_spec b l3) ?_ ?_
  · simp (maxSteps := 2000000) only [okA, ↓okP, Nat.reduceAdd, Nat.reduceMul, Nat.reduceSub, Nat.reduceLT, Nat.reduceLeDiff, Nat.reduceEqDiff, Nat.reduceBEq, ↓reduceIte, reduceCtorEq]
  simp (maxSteps := 2000000) only [vcA, ↓vcP, ↓reduceIte, reduceCtorEq, Nat.reduceAdd, Nat.reduceMul, Nat.reduceSub, Nat.reduceLT, Nat.reduceLeDiff, Nat.reduceEqDiff, Nat.reduceBEq, Nat.reduceBNe, Nat.reduceGT, Nat.reduceDiv, Nat.reduceMod, Int.reduceAdd, Int.reduceSub, Int.reduceNeg, Int.reduceLT, Int.reduceLE, Int.reduceEq, Int.reduceToNat, fA]
  refine onF_data hH ?_ ?_
  · simp (maxSteps := 2000000) only [okA, ↓okP, Nat.reduceAdd, Nat.reduceMul, Nat.reduceSub, Nat.reduceLT, Nat.reduceLeDiff, Nat.reduceEqDiff, Nat.reduceBEq, ↓reduceIte, reduceCtorEq]
  by_cases cq : q.2 - q.1 > (W k).2
  · have c1 : (q.2 - q.1 > (W k).2) = True := eq_true cq
    have c2 : (q.2 - q.1 ≤ (W k).2) = False := eq_false (by omega)
    rw [if_pos cq] at hwk
    simp (maxSteps := 2000000) only [vcA, ↓vcP, ↓reduceIte, reduceCtorEq, Nat.reduceAdd, Nat.reduceMul, Nat.reduceSub, Nat.reduceLT, Nat.reduceLeDiff, Nat.reduceEqDiff, Nat.reduceBEq, Nat.reduceBNe, Nat.reduceGT, Nat.reduceDiv, Nat.reduceMod, Int.reduceAdd, Int.reduceSub, Int.reduceNeg, Int.reduceLT, Int.reduceLE, Int.reduceEq, Int.reduceToNat, fA, hLL, hN, spR, ps1, ps3, ew, c1, c2]
    refine hB2 _ ⟨k + 1, by omega⟩ [] (by simp only; omega) rfl ?_
    simp only [hwk]
    simp (maxSteps := 2000000) only [enA, ↓enP, Nat.reduceAdd, Nat.reduceMul, Nat.reduceSub, Nat.reduceLT, Nat.reduceLeDiff, Nat.reduceEqDiff, Nat.reduceBEq, ↓reduceIte, reduceCtorEq, fA, ek]
  · have c1 : (q.2 - q.1 > (W k).2) = False := eq_false cq
    have c2 : (q.2 - q.1 ≤ (W k).2) = True := eq_true (by omega)
    rw [if_neg cq] at hwk
    simp (maxSteps := 2000000) only [vcA, ↓vcP, ↓reduceIte, reduceCtorEq, Nat.reduceAdd, Nat.reduceMul, Nat.reduceSub, Nat.reduceLT, Nat.reduceLeDiff, Nat.reduceEqDiff, Nat.reduceBEq, Nat.reduceBNe, Nat.reduceGT, Nat.reduceDiv, Nat.reduceMod, Int.reduceAdd, Int.reduceSub, Int.reduceNeg, Int.reduceLT, Int.reduceLE, Int.reduceEq, Int.reduceToNat, fA, hLL, hN, spR, ps1, ps3, ew, c1, c2]
    refine hB2 _ ⟨k + 1, by omega⟩ [] (by simp only; omega) rfl ?_
    simp only [hwk]
    simp (maxSteps := 2000000) only [enA, ↓enP, Nat.reduceAdd, Nat.reduceMul, Nat.reduceSub, Nat.reduceLT, Nat.reduceLeDiff, Nat.reduceEqDiff, Nat.reduceBEq, ↓reduceIte, reduceCtorEq, fA, ek]
end Go.Proofs.Ytninkfpeeemcoaa.Ab.T07
