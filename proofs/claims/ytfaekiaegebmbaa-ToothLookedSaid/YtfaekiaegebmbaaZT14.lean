/- The contracts of Costs and Widest. -/
import Derived.Test.YtfaekiaegebmbaaZT13
namespace Go.Proofs.Ytfaekiaegebmbaa.Ab
open Go Go.RowKit
set_option linter.unusedVariables false
set_option linter.unusedSimpArgs false
set_option maxRecDepth 100000
/-- A view without one of the things that spoil it. -/
def dropV (v : Vw) (i : Nat) : Vw := { v with spoils := v.spoils.take i ++ v.spoils.drop (i + 1) }
def costsI (v : Vw) (s : Sw) (i : Nat) : Int := ((mostI (dropV v i) s).length : Int) - (mostI v s).length
def costsL (b : Bl) (s : Sw) : List Int := if openErr b s = 0 then (List.range b.cracks.length).map (costsI (sureB b) s) else []
theorem dropV_ok {v : Vw} (h : v.Ok) (i : Nat) : (dropV v i).Ok := by
  refine ⟨h.bottom, h.top, fun s hs => ?_, h.len, h.le, ?_⟩
  · have hs : s ∈ v.spoils.take i ++ v.spoils.drop (i + 1) := hs
    rcases List.mem_append.1 hs with h1 | h1
    · exact h.spoils s (List.mem_of_mem_take h1)
    · exact h.spoils s (List.mem_of_mem_drop h1)
  · have := h.sle
    show (v.spoils.take i ++ v.spoils.drop (i + 1)).length ≤ 100
    simp
    omega
theorem mostI_le {v : Vw} {s : Sw} (hv : v.Ok) (hs : sawOk s = true) : (mostI v s).length ≤ 30401 := by
  unfold sawOk at hs
  simp only [Bool.and_eq_true] at hs
  have s1 := betw1 hs.1.1
  have s3 := betw2 hs.2
  have := mostG_le (f := blockI v s) (n := v.bottom.length) (long := s.long.toNat) (step := stepN s) (c := 301) (by unfold stepN; omega) (fun x hx => blockI_len hv (by omega) hx) 0
  have h2 := hv.le
  unfold mostI
  omega
theorem costs_spec (b : Bl) (s : Sw) (h1 : b.bottom.length < 1000000) (h2 : b.top.length < 1000000) : SpecF Try.prog 20 [.agg [.sl 2 (b.bottom.map spR), .sl 2 (b.top.map spR), .v (.int .i64 b.bend), .sl 6 (b.cracks.map crR)], .agg [.v (.int .i64 s.long), .v (.int .i64 s.wide), .v (.int .i64 s.kerf), .v (.int .i64 s.across)]]
    (.tup [.ob 0 (costsL b s).length, .v (.int .i64 (openErr b s))]) [.row 3 1 ((costsL b s).map iR) false] := by
  refine spec_go (N := 56) (rs := [.tmp 4, .tmp 5]) (eq := eqs) rfl rfl fun_20 rfl (by kernel_rfl) (by kernel_rfl) (by simp) (by simp) (by simp) (by simp) fun R hR => ?_
  simp (maxSteps := 2000000) only [vcA, ↓vcP, ↓reduceIte, reduceCtorEq, Nat.reduceAdd, Nat.reduceMul, Nat.reduceSub, Nat.reduceLT, Nat.reduceLeDiff, Nat.reduceEqDiff, Nat.reduceBEq, Nat.reduceBNe, Nat.reduceGT, Nat.reduceDiv, Nat.reduceMod, Int.reduceAdd, Int.reduceSub, Int.reduceNeg, Int.reduceLT, Int.reduceLE, Int.reduceEq, Int.reduceToNat, fA]
  refine onF_call (openB_spec b s h1 h2) [] [] [] ?_ ?_
  · simp (maxSteps := 2000000) only [okA, ↓okP, Nat.reduceAdd, Nat.reduceMul, Nat.reduceSub, Nat.reduceLT, Nat.reduceLeDiff, Nat.reduceEqDiff, Nat.reduceBEq, ↓reduceIte, reduceCtorEq]
  simp (maxSteps := 2000000) only [vcA, ↓vcP, ↓reduceIte, reduceCtorEq, Nat.reduceAdd, Nat.reduceMul, Nat.reduceSub, Nat.reduceLT, Nat.reduceLeDiff, Nat.reduceEqDiff, Nat.reduceBEq, Nat.reduceBNe, Nat.reduceGT, Nat.reduceDiv, Nat.reduceMod, Int.reduceAdd, Int.reduceSub, Int.reduceNeg, Int.reduceLT, Int.reduceLE, Int.reduceEq, Int.reduceToNat, fA]
  refine ⟨fun h3 => hR _ (fin_of1 [none] ?_), fun h3 => ?_⟩
  · have h4 : openErr b s ≠ 0 := by simpa using h3
    have e1 : costsL b s = [] := by unfold costsL; rw [if_neg h4]
    rw [e1]
    simp (maxSteps := 2000000) only [enA, ↓enP, Nat.reduceAdd, Nat.reduceMul, Nat.reduceSub, Nat.reduceLT, Nat.reduceLeDiff, Nat.reduceEqDiff, Nat.reduceBEq, ↓reduceIte, reduceCtorEq, fA]
  have h4 : openErr b s = 0 := by simpa using h3
  obtain ⟨hN, hS⟩ := open_ok h4
  obtain ⟨n0, o1, o2, l1, l2, g1, g2, g3, _⟩ := new_ok hN
  rw [n0]
  refine onF_call (sure_spec b (newLow b) (newTop b) (by omega) (by omega) (by omega)) [56, 57] [] [] ?_ ?_
  · simp (maxSteps := 2000000) only [okA, ↓okP, Nat.reduceAdd, Nat.reduceMul, Nat.reduceSub, Nat.reduceLT, Nat.reduceLeDiff, Nat.reduceEqDiff, Nat.reduceBEq, ↓reduceIte, reduceCtorEq]
  simp (maxSteps := 2000000) only [vcA, ↓vcP, ↓reduceIte, reduceCtorEq, Nat.reduceAdd, Nat.reduceMul, Nat.reduceSub, Nat.reduceLT, Nat.reduceLeDiff, Nat.reduceEqDiff, Nat.reduceBEq, Nat.reduceBNe, Nat.reduceGT, Nat.reduceDiv, Nat.reduceMod, Int.reduceAdd, Int.reduceSub, Int.reduceNeg, Int.reduceLT, Int.reduceLE, Int.reduceEq, Int.reduceToNat, fA]
  have hok := sure_ok hN
  have eB : sureB b = sureV (newLow b) (newTop b) b.cracks := rfl
  rw [← eB] at hok ⊢
  have hlow : (sureB b).bottom.length = (newLow b).length := by simp [eB, sureV]
  have htop : (sureB b).top.length = (newTop b).length := by simp [eB, sureV]
  have hspo : (sureB b).spoils.length = b.cracks.length := by simp [eB, sureV]
  have eL : costsL b s = (List.range b.cracks.length).map (costsI (sureB b) s) := by unfold costsL; rw [if_pos h4]
  generalize hV : sureB b = V at *
  refine onF_call (most_spec V s hok hS) [136, 137, 138] [] [] ?_ ?_
  · simp (maxSteps := 2000000) only [okA, ↓okP, Nat.reduceAdd, Nat.reduceMul, Nat.reduceSub, Nat.reduceLT, Nat.reduceLeDiff, Nat.reduceEqDiff, Nat.reduceBEq, ↓reduceIte, reduceCtorEq]
  simp (maxSteps := 2000000) only [vcA, ↓vcP, ↓reduceIte, reduceCtorEq, Nat.reduceAdd, Nat.reduceMul, Nat.reduceSub, Nat.reduceLT, Nat.reduceLeDiff, Nat.reduceEqDiff, Nat.reduceBEq, Nat.reduceBNe, Nat.reduceGT, Nat.reduceDiv, Nat.reduceMod, Int.reduceAdd, Int.reduceSub, Int.reduceNeg, Int.reduceLT, Int.reduceLE, Int.reduceEq, Int.reduceToNat, fA]
  have hmv := mostI_le hok hS
  refine goC_loop (α := {i : Nat // i ≤ b.cracks.length}) (fun x => ⟨[(3, .ptr 16 0), (4, .ob 232 x.1), (7, .ptr 144 0), (8, .v (.int .i64 (mostI V s).length)), (28, .v (.int .i64 b.cracks.length)), (29, .v (.int .i64 x.1))], [(16, .box 32 [.v (.int .i64 s.long), .v (.int .i64 s.wide), .v (.int .i64 s.kerf), .v (.int .i64 s.across)]), (136, .row 3 1 (V.bottom.map iR) true), (137, .row 3 1 (V.top.map iR) true), (138, .row 118 4 (V.spoils.map spoR) true), (144, .box 113 [.ob 136 (newLow b).length, .ob 137 (newTop b).length, .ob 138 b.cracks.length]),
    (232, .row 3 1 (((List.range x.1).map (costsI V s)).map iR) false)]⟩) (fun x => b.cracks.length - x.1) ⟨0, by omega⟩ [none] ?_ ?_
  · simp (maxSteps := 2000000) only [enA, ↓enP, Nat.reduceAdd, Nat.reduceMul, Nat.reduceSub, Nat.reduceLT, Nat.reduceLeDiff, Nat.reduceEqDiff, Nat.reduceBEq, ↓reduceIte, reduceCtorEq, fA]
    exact ⟨rfl, rfl⟩
  intro x B hB
  obtain ⟨i, hi⟩ := x
  by_cases hc : i < b.cracks.length
  · have qc : (i < b.cracks.length) = True := eq_true hc
    have e3 : IntKind.i64.wrap ((i : Int) + 1) = ((i + 1 : Nat) : Int) := wrap_id (by omega) (by omega)
    simp (maxSteps := 2000000) only [vcA, ↓vcP, ↓reduceIte, reduceCtorEq, Nat.reduceAdd, Nat.reduceMul, Nat.reduceSub, Nat.reduceLT, Nat.reduceLeDiff, Nat.reduceEqDiff, Nat.reduceBEq, Nat.reduceBNe, Nat.reduceGT, Nat.reduceDiv, Nat.reduceMod, Int.reduceAdd, Int.reduceSub, Int.reduceNeg, Int.reduceLT, Int.reduceLE, Int.reduceEq, Int.reduceToNat, fA, qc, e3]
    refine onS_frz ?_
    simp (maxSteps := 2000000) only [vcA, ↓vcP, ↓reduceIte, reduceCtorEq, Nat.reduceAdd, Nat.reduceMul, Nat.reduceSub, Nat.reduceLT, Nat.reduceLeDiff, Nat.reduceEqDiff, Nat.reduceBEq, Nat.reduceBNe, Nat.reduceGT, Nat.reduceDiv, Nat.reduceMod, Int.reduceAdd, Int.reduceSub, Int.reduceNeg, Int.reduceLT, Int.reduceLE, Int.reduceEq, Int.reduceToNat, fA, qc, e3]
    refine ⟨by omega, fun _ => onS_frz ?_⟩
    simp (maxSteps := 2000000) only [vcA, ↓vcP, ↓reduceIte, reduceCtorEq, Nat.reduceAdd, Nat.reduceMul, Nat.reduceSub, Nat.reduceLT, Nat.reduceLeDiff, Nat.reduceEqDiff, Nat.reduceBEq, Nat.reduceBNe, Nat.reduceGT, Nat.reduceDiv, Nat.reduceMod, Int.reduceAdd, Int.reduceSub, Int.reduceNeg, Int.reduceLT, Int.reduceLE, Int.reduceEq, Int.reduceToNat, fA, qc, e3]
    have hml : V.spoils.take i ++ V.spoils.drop (i + 1) = [V.spoils.take i, V.spoils.drop (i + 1)].flatten := by simp
    have hln : ([V.spoils.take i, V.spoils.drop (i + 1)].flatten).length < 1000 := by have := (dropV_ok hok i).sle; rw [← hml]; exact Nat.lt_of_le_of_lt this (by omega)
    refine ⟨by omega, fun _ => onF_call (concat_spec [V.spoils.take i, V.spoils.drop (i + 1)] (by simp) hln) [384] [] [] ?_ ?_⟩
    · simp (maxSteps := 2000000) only [okA, ↓okP, Nat.reduceAdd, Nat.reduceMul, Nat.reduceSub, Nat.reduceLT, Nat.reduceLeDiff, Nat.reduceEqDiff, Nat.reduceBEq, ↓reduceIte, reduceCtorEq]
      simp [spsR]
    simp (maxSteps := 2000000) only [vcA, ↓vcP, ↓reduceIte, reduceCtorEq, Nat.reduceAdd, Nat.reduceMul, Nat.reduceSub, Nat.reduceLT, Nat.reduceLeDiff, Nat.reduceEqDiff, Nat.reduceBEq, Nat.reduceBNe, Nat.reduceGT, Nat.reduceDiv, Nat.reduceMod, Int.reduceAdd, Int.reduceSub, Int.reduceNeg, Int.reduceLT, Int.reduceLE, Int.reduceEq, Int.reduceToNat, fA, qc, e3]
    repeat (first | refine ⟨by kernel_rfl, ?_⟩ | refine ⟨⟨by kernel_rfl, by kernel_rfl⟩, ?_⟩ | refine ⟨⟨by kernel_rfl, by kernel_rfl, by kernel_rfl⟩, ?_⟩ | refine ⟨⟨by kernel_rfl, by kernel_rfl, by kernel_rfl, by kernel_rfl⟩, ?_⟩ | refine ⟨⟨by kernel_rfl, by kernel_rfl, by kernel_rfl, by kernel_rfl, by kernel_rfl⟩, ?_⟩ | refine ⟨⟨by kernel_rfl, by kernel_rfl, by kernel_rfl, by kernel_rfl, by kernel_rfl, by kernel_rfl⟩, ?_⟩ | refine ⟨⟨by kernel_rfl, by kernel_rfl, by kernel_rfl, by kernel_rfl, by kernel_rfl, by kernel_rfl, by kernel_rfl⟩, ?_⟩ | refine ⟨⟨by kernel_rfl, by kernel_rfl, by kernel_rfl, by kernel_rfl, by kernel_rfl, by kernel_rfl, by kernel_rfl, by kernel_rfl⟩, ?_⟩ | refine ⟨⟨by kernel_rfl, by kernel_rfl, by kernel_rfl, by kernel_rfl, by kernel_rfl, by kernel_rfl, by kernel_rfl, by kernel_rfl, by kernel_rfl⟩, ?_⟩ | refine ⟨⟨by kernel_rfl, by kernel_rfl, by kernel_rfl, by kernel_rfl, by kernel_rfl, by kernel_rfl, by kernel_rfl, by kernel_rfl, by kernel_rfl, by kernel_rfl⟩, ?_⟩ | refine ⟨⟨by kernel_rfl, by kernel_rfl, by kernel_rfl, by kernel_rfl, by kernel_rfl, by kernel_rfl, by kernel_rfl, by kernel_rfl, by kernel_rfl, by kernel_rfl, by kernel_rfl⟩, ?_⟩ | refine ⟨⟨by kernel_rfl, by kernel_rfl, by kernel_rfl, by kernel_rfl, by kernel_rfl, by kernel_rfl, by kernel_rfl, by kernel_rfl, by kernel_rfl, by kernel_rfl, by kernel_rfl, by kernel_rfl⟩, ?_⟩ | refine ⟨⟨by kernel_rfl, by kernel_rfl, by kernel_rfl, by kernel_rfl, by kernel_rfl, by kernel_rfl, by kernel_rfl, by kernel_rfl, by kernel_rfl, by kernel_rfl, by kernel_rfl, by kernel_rfl, by kernel_rfl⟩, ?_⟩)
    have hmd := mostI_le (dropV_ok hok i) hS
    have e4 : IntKind.i64.wrap (((mostI (dropV V i) s).length : Int) - (mostI V s).length) = costsI V s i := wrap_id (by omega) (by omega)
    refine onF_call (most_spec (dropV V i) s (dropV_ok hok i) hS) [392] [] [] ?_ ?_
    · simp (maxSteps := 2000000) only [okA, ↓okP, Nat.reduceAdd, Nat.reduceMul, Nat.reduceSub, Nat.reduceLT, Nat.reduceLeDiff, Nat.reduceEqDiff, Nat.reduceBEq, ↓reduceIte, reduceCtorEq]
      exact ⟨rfl, rfl, rfl⟩
    simp (maxSteps := 2000000) only [vcA, ↓vcP, ↓reduceIte, reduceCtorEq, Nat.reduceAdd, Nat.reduceMul, Nat.reduceSub, Nat.reduceLT, Nat.reduceLeDiff, Nat.reduceEqDiff, Nat.reduceBEq, Nat.reduceBNe, Nat.reduceGT, Nat.reduceDiv, Nat.reduceMod, Int.reduceAdd, Int.reduceSub, Int.reduceNeg, Int.reduceLT, Int.reduceLE, Int.reduceEq, Int.reduceToNat, fA, qc, e3, e4]
    have hrl : (List.range i).length + 1 ≤ 1000 := by rw [List.length_range]; omega
    refine ⟨⟨by omega, by simp only [maxLen]; omega⟩, fun _ => hB _ ⟨i + 1, by omega⟩ [some 480] (by simp only; omega) rfl ?_⟩
    simp (maxSteps := 2000000) only [enA, ↓enP, Nat.reduceAdd, Nat.reduceMul, Nat.reduceSub, Nat.reduceLT, Nat.reduceLeDiff, Nat.reduceEqDiff, Nat.reduceBEq, ↓reduceIte, reduceCtorEq, fA]
    rw [List.range_succ, List.map_append, List.map_append]
    simp [iR]
  · have qc : (i < b.cracks.length) = False := eq_false hc
    have : i = b.cracks.length := by omega
    subst this
    simp (maxSteps := 2000000) only [vcA, ↓vcP, ↓reduceIte, reduceCtorEq, Nat.reduceAdd, Nat.reduceMul, Nat.reduceSub, Nat.reduceLT, Nat.reduceLeDiff, Nat.reduceEqDiff, Nat.reduceBEq, Nat.reduceBNe, Nat.reduceGT, Nat.reduceDiv, Nat.reduceMod, Int.reduceAdd, Int.reduceSub, Int.reduceNeg, Int.reduceLT, Int.reduceLE, Int.reduceEq, Int.reduceToNat, fA, qc]
    refine hR _ (fin_of1 [some 232] ?_)
    rw [eL, h4]
    simp (maxSteps := 2000000) only [enA, ↓enP, Nat.reduceAdd, Nat.reduceMul, Nat.reduceSub, Nat.reduceLT, Nat.reduceLeDiff, Nat.reduceEqDiff, Nat.reduceBEq, ↓reduceIte, reduceCtorEq, fA]
    simp
/-- The widest sticks of which there are so many: halved again and again. -/
def wideGo (v : Vw) (s : Sw) (sticks : Int) : Nat → Int → Int → Int
  | 0, lo, _ => lo
  | f + 1, lo, hi => if lo < hi then
      if ((mostI v { s with wide := (lo + hi + 1) / 2 }).length : Int) ≥ sticks then wideGo v s sticks f ((lo + hi + 1) / 2) hi
      else wideGo v s sticks f lo ((lo + hi + 1) / 2 - 1)
    else lo
theorem wideGo_fuel {v : Vw} {s : Sw} {sticks : Int} : ∀ (f g : Nat) (lo hi : Int), (hi - lo).toNat ≤ f → (hi - lo).toNat ≤ g → wideGo v s sticks f lo hi = wideGo v s sticks g lo hi
  | 0, 0, _, _, _, _ => rfl
  | 0, g + 1, lo, hi, h, _ => by rw [wideGo, wideGo, if_neg (by omega)]
  | f + 1, 0, lo, hi, _, h => by rw [wideGo, wideGo, if_neg (by omega)]
  | f + 1, g + 1, lo, hi, h1, h2 => by
    rw [wideGo, wideGo]
    by_cases hc : lo < hi
    · rw [if_pos hc, if_pos hc, wideGo_fuel f g ((lo + hi + 1) / 2) hi (by omega) (by omega), wideGo_fuel f g lo ((lo + hi + 1) / 2 - 1) (by omega) (by omega)]
    · rw [if_neg hc, if_neg hc]
def wideI (v : Vw) (s : Sw) (sticks lo hi : Int) : Int := wideGo v s sticks (hi - lo).toNat lo hi
theorem wideI_end {v : Vw} {s : Sw} {sticks lo hi : Int} (h : ¬ lo < hi) : wideI v s sticks lo hi = lo := by
  unfold wideI
  rw [show (hi - lo).toNat = 0 by omega]
  rfl
theorem wideI_step {v : Vw} {s : Sw} {sticks lo hi : Int} (h : lo < hi) : wideI v s sticks lo hi = if ((mostI v { s with wide := (lo + hi + 1) / 2 }).length : Int) ≥ sticks then wideI v s sticks ((lo + hi + 1) / 2) hi else wideI v s sticks lo ((lo + hi + 1) / 2 - 1) := by
  unfold wideI
  rw [show (hi - lo).toNat = (hi - lo - 1).toNat + 1 by omega, wideGo, if_pos h, wideGo_fuel (hi - lo - 1).toNat (hi - (lo + hi + 1) / 2).toNat _ _ (by omega) (by omega), wideGo_fuel (hi - lo - 1).toNat ((lo + hi + 1) / 2 - 1 - lo).toNat _ _ (by omega) (by omega)]
/-- The widest sticks, and the error. -/
def widestR (b : Bl) (s : Sw) (sticks : Int) : Int × Int := if openErr b s ≠ 0 then (0, openErr b s) else if betw 1 400 [sticks] = true then
    (if wideI (sureB b) s sticks 0 300 = 0 then (0, 7) else (wideI (sureB b) s sticks 0 300, 0)) else (0, 2)
theorem sureF_spec (b : Bl) (low top : List Sp) (h1 : low.length < 1000) (h2 : top.length < 1000) (h3 : b.cracks.length < 1000) : SpecF Try.prog 52 [.agg [.sl 2 (b.bottom.map spR), .sl 2 (b.top.map spR), .v (.int .i64 b.bend), .sl 6 (b.cracks.map crR), .sl 2 (low.map spR), .sl 2 (top.map spR)]]
    (.agg [.sl 1 ((sureV low top b.cracks).bottom.map iR), .sl 1 ((sureV low top b.cracks).top.map iR), .sl 4 ((sureV low top b.cracks).spoils.map spoR)]) [] := (sure_spec b low top h1 h2 h3).frz
theorem openF_spec (b : Bl) (s : Sw) (h1 : b.bottom.length < 1000000) (h2 : b.top.length < 1000000) : SpecF Try.prog 51 [.agg [.sl 2 (b.bottom.map spR), .sl 2 (b.top.map spR), .v (.int .i64 b.bend), .sl 6 (b.cracks.map crR)], .agg [.v (.int .i64 s.long), .v (.int .i64 s.wide), .v (.int .i64 s.kerf), .v (.int .i64 s.across)]]
    (.tup [.agg [.sl 2 ((newB b).bottom.map spR), .sl 2 ((newB b).top.map spR), .v (.int .i64 (newB b).bend), .sl 6 ((newB b).cracks.map crR), .sl 2 ((newLow b).map spR), .sl 2 ((newTop b).map spR)], .v (.int .i64 (openErr b s))]) [] := (openB_spec b s h1 h2).frz
/-- What the closure of Widest holds: the saw, the view, and how many sticks. -/
def wideObs (v : Vw) (s : Sw) (sticks : Int) : List Obj := [.box 32 [.v (.int .i64 s.long), .v (.int .i64 s.wide), .v (.int .i64 s.kerf), .v (.int .i64 s.across)], .box 113 [.sl 1 (v.bottom.map iR), .sl 1 (v.top.map iR), .sl 4 (v.spoils.map spoR)], .box 3 [.v (.int .i64 sticks)]]
theorem enough_spec (v : Vw) (s : Sw) (sticks w : Int) (hv : v.Ok) (hs : sawOk s = true) (hw : 1 ≤ w ∧ w ≤ 300) : SpecG Try.prog 76 [.v (.int .i64 w), .ptr 0 0, .ptr 1 0, .ptr 2 0] (wideObs v s sticks)
    (.v (.bool (decide (((mostI v { s with wide := w }).length : Int) ≥ sticks)))) (wideObs v s sticks) := by
  unfold wideObs
  have hs2 : sawOk { s with wide := w } = true := by
    unfold sawOk at hs ⊢
    simp only [Bool.and_eq_true] at hs ⊢
    refine ⟨⟨hs.1.1, ?_⟩, hs.2⟩
    simp [betw, hw]
  refine spec_go (N := 16) (rs := [.tmp 5]) (eq := eqs) rfl rfl fun_76 rfl (by kernel_rfl) (by kernel_rfl) (by simp) (by simp) (by simp) (by simp) fun R hR => ?_
  simp (maxSteps := 2000000) only [vcA, ↓vcP, ↓reduceIte, reduceCtorEq, Nat.reduceAdd, Nat.reduceMul, Nat.reduceSub, Nat.reduceLT, Nat.reduceLeDiff, Nat.reduceEqDiff, Nat.reduceBEq, Nat.reduceBNe, Nat.reduceGT, Nat.reduceDiv, Nat.reduceMod, Int.reduceAdd, Int.reduceSub, Int.reduceNeg, Int.reduceLT, Int.reduceLE, Int.reduceEq, Int.reduceToNat, fA]
  refine onF_call (most_spec v { s with wide := w } hv hs2) [] [] [] ?_ ?_
  · simp (maxSteps := 2000000) only [okA, ↓okP, Nat.reduceAdd, Nat.reduceMul, Nat.reduceSub, Nat.reduceLT, Nat.reduceLeDiff, Nat.reduceEqDiff, Nat.reduceBEq, ↓reduceIte, reduceCtorEq]
  simp (maxSteps := 2000000) only [vcA, ↓vcP, ↓reduceIte, reduceCtorEq, Nat.reduceAdd, Nat.reduceMul, Nat.reduceSub, Nat.reduceLT, Nat.reduceLeDiff, Nat.reduceEqDiff, Nat.reduceBEq, Nat.reduceBNe, Nat.reduceGT, Nat.reduceDiv, Nat.reduceMod, Int.reduceAdd, Int.reduceSub, Int.reduceNeg, Int.reduceLT, Int.reduceLE, Int.reduceEq, Int.reduceToNat, fA]
  repeat (first | refine ⟨by kernel_rfl, ?_⟩ | refine ⟨⟨by kernel_rfl, by kernel_rfl⟩, ?_⟩ | refine ⟨⟨by kernel_rfl, by kernel_rfl, by kernel_rfl⟩, ?_⟩ | refine ⟨⟨by kernel_rfl, by kernel_rfl, by kernel_rfl, by kernel_rfl⟩, ?_⟩ | refine ⟨⟨by kernel_rfl, by kernel_rfl, by kernel_rfl, by kernel_rfl, by kernel_rfl⟩, ?_⟩ | refine ⟨⟨by kernel_rfl, by kernel_rfl, by kernel_rfl, by kernel_rfl, by kernel_rfl, by kernel_rfl⟩, ?_⟩ | refine ⟨⟨by kernel_rfl, by kernel_rfl, by kernel_rfl, by kernel_rfl, by kernel_rfl, by kernel_rfl, by kernel_rfl⟩, ?_⟩ | refine ⟨⟨by kernel_rfl, by kernel_rfl, by kernel_rfl, by kernel_rfl, by kernel_rfl, by kernel_rfl, by kernel_rfl, by kernel_rfl⟩, ?_⟩ | refine ⟨⟨by kernel_rfl, by kernel_rfl, by kernel_rfl, by kernel_rfl, by kernel_rfl, by kernel_rfl, by kernel_rfl, by kernel_rfl, by kernel_rfl⟩, ?_⟩ | refine ⟨⟨by kernel_rfl, by kernel_rfl, by kernel_rfl, by kernel_rfl, by kernel_rfl, by kernel_rfl, by kernel_rfl, by kernel_rfl, by kernel_rfl, by kernel_rfl⟩, ?_⟩ | refine ⟨⟨by kernel_rfl, by kernel_rfl, by kernel_rfl, by kernel_rfl, by kernel_rfl, by kernel_rfl, by kernel_rfl, by kernel_rfl, by kernel_rfl, by kernel_rfl, by kernel_rfl⟩, ?_⟩ | refine ⟨⟨by kernel_rfl, by kernel_rfl, by kernel_rfl, by kernel_rfl, by kernel_rfl, by kernel_rfl, by kernel_rfl, by kernel_rfl, by kernel_rfl, by kernel_rfl, by kernel_rfl, by kernel_rfl⟩, ?_⟩ | refine ⟨⟨by kernel_rfl, by kernel_rfl, by kernel_rfl, by kernel_rfl, by kernel_rfl, by kernel_rfl, by kernel_rfl, by kernel_rfl, by kernel_rfl, by kernel_rfl, by kernel_rfl, by kernel_rfl, by kernel_rfl⟩, ?_⟩)
  refine hR _ (fin_of1 [] ?_)
  simp (maxSteps := 2000000) only [enA, ↓enP, Nat.reduceAdd, Nat.reduceMul, Nat.reduceSub, Nat.reduceLT, Nat.reduceLeDiff, Nat.reduceEqDiff, Nat.reduceBEq, ↓reduceIte, reduceCtorEq, fA]
set_option maxHeartbeats 1000000 in
theorem widest_spec (b : Bl) (s : Sw) (sticks : Int) (h1 : b.bottom.length < 1000000) (h2 : b.top.length < 1000000) : SpecF Try.prog 40 [.agg [.sl 2 (b.bottom.map spR), .sl 2 (b.top.map spR), .v (.int .i64 b.bend), .sl 6 (b.cracks.map crR)], .agg [.v (.int .i64 s.long), .v (.int .i64 s.wide), .v (.int .i64 s.kerf), .v (.int .i64 s.across)], .v (.int .i64 sticks)]
    (.tup [.v (.int .i64 (widestR b s sticks).1), .v (.int .i64 (widestR b s sticks).2)]) [] := by
  refine spec_go (N := 50) (rs := [.tmp 6, .tmp 7]) (eq := eqs) rfl rfl fun_40 rfl (by kernel_rfl) (by kernel_rfl) (by simp) (by simp) (by simp) (by simp) fun R hR => ?_
  simp (maxSteps := 2000000) only [vcA, ↓vcP, ↓reduceIte, reduceCtorEq, Nat.reduceAdd, Nat.reduceMul, Nat.reduceSub, Nat.reduceLT, Nat.reduceLeDiff, Nat.reduceEqDiff, Nat.reduceBEq, Nat.reduceBNe, Nat.reduceGT, Nat.reduceDiv, Nat.reduceMod, Int.reduceAdd, Int.reduceSub, Int.reduceNeg, Int.reduceLT, Int.reduceLE, Int.reduceEq, Int.reduceToNat, fA]
  refine onF_call (openF_spec b s h1 h2) [] [] [] ?_ ?_
  · simp (maxSteps := 2000000) only [okA, ↓okP, Nat.reduceAdd, Nat.reduceMul, Nat.reduceSub, Nat.reduceLT, Nat.reduceLeDiff, Nat.reduceEqDiff, Nat.reduceBEq, ↓reduceIte, reduceCtorEq]
  simp (maxSteps := 2000000) only [vcA, ↓vcP, ↓reduceIte, reduceCtorEq, Nat.reduceAdd, Nat.reduceMul, Nat.reduceSub, Nat.reduceLT, Nat.reduceLeDiff, Nat.reduceEqDiff, Nat.reduceBEq, Nat.reduceBNe, Nat.reduceGT, Nat.reduceDiv, Nat.reduceMod, Int.reduceAdd, Int.reduceSub, Int.reduceNeg, Int.reduceLT, Int.reduceLE, Int.reduceEq, Int.reduceToNat, fA]
  refine ⟨fun h3 => hR _ (fin_of0 ?_), fun h3 => ?_⟩
  · have h4 : openErr b s ≠ 0 := by simpa using h3
    have e1 : widestR b s sticks = (0, openErr b s) := by unfold widestR; rw [if_pos h4]
    rw [e1]
    simp (maxSteps := 2000000) only [enA, ↓enP, Nat.reduceAdd, Nat.reduceMul, Nat.reduceSub, Nat.reduceLT, Nat.reduceLeDiff, Nat.reduceEqDiff, Nat.reduceBEq, ↓reduceIte, reduceCtorEq, fA]
  have h4 : openErr b s = 0 := by simpa using h3
  obtain ⟨hN, hS⟩ := open_ok h4
  obtain ⟨n0, o1, o2, l1, l2, g1, g2, g3, _⟩ := new_ok hN
  rw [n0]
  refine onF_call3 (tooth_within 1 400 [sticks] (by simp)) ?_ ?_
  · simp (maxSteps := 2000000) only [okA, ↓okP, Nat.reduceAdd, Nat.reduceMul, Nat.reduceSub, Nat.reduceLT, Nat.reduceLeDiff, Nat.reduceEqDiff, Nat.reduceBEq, ↓reduceIte, reduceCtorEq]
    rfl
  simp (maxSteps := 2000000) only [vcA, ↓vcP, ↓reduceIte, reduceCtorEq, Nat.reduceAdd, Nat.reduceMul, Nat.reduceSub, Nat.reduceLT, Nat.reduceLeDiff, Nat.reduceEqDiff, Nat.reduceBEq, Nat.reduceBNe, Nat.reduceGT, Nat.reduceDiv, Nat.reduceMod, Int.reduceAdd, Int.reduceSub, Int.reduceNeg, Int.reduceLT, Int.reduceLE, Int.reduceEq, Int.reduceToNat, fA]
  refine ⟨fun h5 => hR _ (fin_of0 ?_), fun h5 => ?_⟩
  · have e1 : widestR b s sticks = (0, 2) := by
      unfold widestR
      rw [if_neg (by rw [h4]; simp), if_neg (by simpa using h5)]
    rw [e1]
    simp (maxSteps := 2000000) only [enA, ↓enP, Nat.reduceAdd, Nat.reduceMul, Nat.reduceSub, Nat.reduceLT, Nat.reduceLeDiff, Nat.reduceEqDiff, Nat.reduceBEq, ↓reduceIte, reduceCtorEq, fA]
  have h6 : betw 1 400 [sticks] = true := by simpa using h5
  refine onF_call (sureF_spec b (newLow b) (newTop b) (by omega) (by omega) (by omega)) [] [] [] ?_ ?_
  · simp (maxSteps := 2000000) only [okA, ↓okP, Nat.reduceAdd, Nat.reduceMul, Nat.reduceSub, Nat.reduceLT, Nat.reduceLeDiff, Nat.reduceEqDiff, Nat.reduceBEq, ↓reduceIte, reduceCtorEq]
  simp (maxSteps := 2000000) only [vcA, ↓vcP, ↓reduceIte, reduceCtorEq, Nat.reduceAdd, Nat.reduceMul, Nat.reduceSub, Nat.reduceLT, Nat.reduceLeDiff, Nat.reduceEqDiff, Nat.reduceBEq, Nat.reduceBNe, Nat.reduceGT, Nat.reduceDiv, Nat.reduceMod, Int.reduceAdd, Int.reduceSub, Int.reduceNeg, Int.reduceLT, Int.reduceLE, Int.reduceEq, Int.reduceToNat, fA]
  have hok := sure_ok hN
  have eB : sureB b = sureV (newLow b) (newTop b) b.cracks := rfl
  rw [← eB] at hok ⊢
  have hlow : (sureB b).bottom.length = (newLow b).length := by simp [eB, sureV]
  have htop : (sureB b).top.length = (newTop b).length := by simp [eB, sureV]
  have hspo : (sureB b).spoils.length = b.cracks.length := by simp [eB, sureV]
  have eL : widestR b s sticks = if wideI (sureB b) s sticks 0 300 = 0 then (0, 7) else (wideI (sureB b) s sticks 0 300, 0) := by unfold widestR; rw [if_neg (by rw [h4]; simp), if_pos h6]
  generalize hV : sureB b = V at *
  have hS2 := hS
  refine goC_loop (α := {q : Int × Int // 0 ≤ q.1 ∧ q.1 ≤ 300 ∧ 0 ≤ q.2 ∧ q.2 ≤ 300 ∧ wideI V s sticks 0 300 = wideI V s sticks q.1 q.2}) (fun q => ⟨[(4, .ptr 16 0), (10, .ptr 200 0), (5, .ptr 24 0), (11, .fn 76 [.ptr 16 0, .ptr 200 0, .ptr 24 0]), (12, .v (.int .i64 q.1.1)), (13, .v (.int .i64 q.1.2))], [(16, .box 32 [.v (.int .i64 s.long), .v (.int .i64 s.wide), .v (.int .i64 s.kerf), .v (.int .i64 s.across)]), (24, .box 3 [.v (.int .i64 sticks)]), (200, .box 113 [.sl 1 (V.bottom.map iR), .sl 1 (V.top.map iR), .sl 4 (V.spoils.map spoR)])]⟩) (fun q => (q.1.2 - q.1.1).toNat) ⟨(0, 300), by omega, by omega, by omega, by omega, rfl⟩ [] ?_ ?_
  · simp (maxSteps := 2000000) only [enA, ↓enP, Nat.reduceAdd, Nat.reduceMul, Nat.reduceSub, Nat.reduceLT, Nat.reduceLeDiff, Nat.reduceEqDiff, Nat.reduceBEq, ↓reduceIte, reduceCtorEq, fA]
  intro q B hB
  obtain ⟨⟨lo, hi⟩, q1, q2, q3, q4, hinv⟩ := q
  simp only at q1 q2 q3 q4 hinv
  by_cases hc : lo < hi
  · have qc : (lo < hi) = True := eq_true hc
    have e1 : IntKind.i64.wrap (lo + hi) = lo + hi := wrap_id (by omega) (by omega)
    have e2 : IntKind.i64.wrap (lo + hi + 1) = lo + hi + 1 := wrap_id (by omega) (by omega)
    have e3 : (lo + hi + 1).tdiv 2 = (lo + hi + 1) / 2 := quo_of (by omega)
    have e4 : IntKind.i64.wrap ((lo + hi + 1) / 2) = (lo + hi + 1) / 2 := wrap_id (by omega) (by omega)
    have e5 : IntKind.i64.wrap ((lo + hi + 1) / 2 - 1) = (lo + hi + 1) / 2 - 1 := wrap_id (by omega) (by omega)
    have hst := wideI_step (v := V) (s := s) (sticks := sticks) hc
    simp (maxSteps := 2000000) only [vcA, ↓vcP, ↓reduceIte, reduceCtorEq, Nat.reduceAdd, Nat.reduceMul, Nat.reduceSub, Nat.reduceLT, Nat.reduceLeDiff, Nat.reduceEqDiff, Nat.reduceBEq, Nat.reduceBNe, Nat.reduceGT, Nat.reduceDiv, Nat.reduceMod, Int.reduceAdd, Int.reduceSub, Int.reduceNeg, Int.reduceLT, Int.reduceLE, Int.reduceEq, Int.reduceToNat, fA, qc, e1, e2, e3, e4]
    refine onF_call (enough_spec V s sticks ((lo + hi + 1) / 2) hok hS (by omega)) [] [] [16, 200, 24] ?_ ?_
    · unfold wideObs
      simp (maxSteps := 2000000) only [okA, ↓okP, Nat.reduceAdd, Nat.reduceMul, Nat.reduceSub, Nat.reduceLT, Nat.reduceLeDiff, Nat.reduceEqDiff, Nat.reduceBEq, ↓reduceIte, reduceCtorEq]
    · unfold wideObs
      simp (maxSteps := 2000000) only [vcA, ↓vcP, ↓reduceIte, reduceCtorEq, Nat.reduceAdd, Nat.reduceMul, Nat.reduceSub, Nat.reduceLT, Nat.reduceLeDiff, Nat.reduceEqDiff, Nat.reduceBEq, Nat.reduceBNe, Nat.reduceGT, Nat.reduceDiv, Nat.reduceMod, Int.reduceAdd, Int.reduceSub, Int.reduceNeg, Int.reduceLT, Int.reduceLE, Int.reduceEq, Int.reduceToNat, fA, e5]
      refine ⟨fun h7 => hB _ ⟨((lo + hi + 1) / 2, hi), by simp only; omega, by simp only; omega, by simp only; omega, by simp only; omega, by rw [hinv, hst, if_pos h7]⟩ [] (by simp only; omega) rfl ?_, fun h7 => hB _ ⟨(lo, (lo + hi + 1) / 2 - 1), by simp only; omega, by simp only; omega, by simp only; omega, by simp only; omega, by rw [hinv, hst, if_neg h7]⟩ [] (by simp only; omega) rfl ?_⟩
      · simp (maxSteps := 2000000) only [enA, ↓enP, Nat.reduceAdd, Nat.reduceMul, Nat.reduceSub, Nat.reduceLT, Nat.reduceLeDiff, Nat.reduceEqDiff, Nat.reduceBEq, ↓reduceIte, reduceCtorEq, fA]
      · simp (maxSteps := 2000000) only [enA, ↓enP, Nat.reduceAdd, Nat.reduceMul, Nat.reduceSub, Nat.reduceLT, Nat.reduceLeDiff, Nat.reduceEqDiff, Nat.reduceBEq, ↓reduceIte, reduceCtorEq, fA]
  · have qc : (lo < hi) = False := eq_false hc
    have hen := wideI_end (v := V) (s := s) (sticks := sticks) hc
    simp (maxSteps := 2000000) only [vcA, ↓vcP, ↓reduceIte, reduceCtorEq, Nat.reduceAdd, Nat.reduceMul, Nat.reduceSub, Nat.reduceLT, Nat.reduceLeDiff, Nat.reduceEqDiff, Nat.reduceBEq, Nat.reduceBNe, Nat.reduceGT, Nat.reduceDiv, Nat.reduceMod, Int.reduceAdd, Int.reduceSub, Int.reduceNeg, Int.reduceLT, Int.reduceLE, Int.reduceEq, Int.reduceToNat, fA, qc]
    refine ⟨fun h7 => hR _ (fin_of0 ?_), fun h7 => hR _ (fin_of0 ?_)⟩
    · have h8 : lo = 0 := by simpa using h7
      rw [eL, hinv, hen, if_pos h8]
      simp (maxSteps := 2000000) only [enA, ↓enP, Nat.reduceAdd, Nat.reduceMul, Nat.reduceSub, Nat.reduceLT, Nat.reduceLeDiff, Nat.reduceEqDiff, Nat.reduceBEq, ↓reduceIte, reduceCtorEq, fA]
    · have h8 : lo ≠ 0 := by simpa using h7
      rw [eL, hinv, hen, if_neg h8]
      simp (maxSteps := 2000000) only [enA, ↓enP, Nat.reduceAdd, Nat.reduceMul, Nat.reduceSub, Nat.reduceLT, Nat.reduceLeDiff, Nat.reduceEqDiff, Nat.reduceBEq, ↓reduceIte, reduceCtorEq, fA]
end Go.Proofs.Ytfaekiaegebmbaa.Ab
