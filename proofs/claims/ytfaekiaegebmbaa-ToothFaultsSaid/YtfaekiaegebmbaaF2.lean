/- The contract of Fault. -/
import Derived.Test.YtfaekiaegebmbaaF1
namespace Go.Proofs.Ytfaekiaegebmbaa.Ab.T01
open Go Go.RowKit
set_option linter.unusedSimpArgs false
set_option linter.unusedVariables false
set_option maxRecDepth 100000
structure OnBlade (v : Vw) (s : Sw) (p : Int × Int) : Prop where
  x0 : 0 ≤ p.1
  x1 : p.1 + s.long ≤ v.bottom.length
  y0 : 0 ≤ p.2
  y1 : p.2 ≤ 300
def soundI (v : Vw) (s : Sw) (p : Int × Int) : Bool := refSound v s.long.toNat s.wide p.1.toNat p.2
theorem sound1_spec (v : Vw) (s : Sw) (p : Int × Int) (hv : v.Ok) (hs : sawOk s = true) (hp : OnBlade v s p) : SpecF Try.prog 71 [.agg [.sl 1 (v.bottom.map iR), .sl 1 (v.top.map iR), .sl 4 (v.spoils.map spoR)], .agg [.v (.int .i64 s.long), .v (.int .i64 s.wide), .v (.int .i64 s.kerf), .v (.int .i64 s.across)], .agg [.v (.int .i64 p.1), .v (.int .i64 p.2)]] (.v (.bool (soundI v s p))) [] := by
  obtain ⟨x, y⟩ := p
  obtain ⟨x0, x1, y0, y1⟩ := hp
  simp only at x0 x1 y0 y1
  obtain ⟨X, rfl⟩ : ∃ X : Nat, x = X := ⟨x.toNat, by omega⟩
  have hs0 := hs
  unfold sawOk at hs
  simp only [Bool.and_eq_true] at hs
  have s1 := betw1 hs.1.1
  have s2 := betw1 hs.1.2
  have hle := hv.le
  have hlen := hv.len
  have el : ((s.long.toNat : Nat) : Int) = s.long := by omega
  have hr := room_spec v X s.long.toNat (by omega) (by omega) (by omega) (by omega) (by omega)
  have hsi := sound_iff (v := v) (long := s.long.toNat) (x := X) (wide := s.wide) (y := y) (by omega) (by omega) (by omega)
  have hI : soundI v s ((X : Int), y) = refSound v s.long.toNat s.wide X y := rfl
  rw [← hI] at hsi
  rw [el] at hr hsi
  have e2 : IntKind.i64.wrap (y + s.wide) = y + s.wide := wrap_id (by omega) (by omega)
  refine spec_go (N := 48) (rs := [.tmp 6]) (eq := eqs) rfl rfl fun_71 rfl (by kernel_rfl) (by kernel_rfl) (by simp) (by simp) (by simp) (by simp) fun R hR => ?_
  simp (maxSteps := 2000000) only [vcA, ↓vcP, ↓reduceIte, reduceCtorEq, Nat.reduceAdd, Nat.reduceMul, Nat.reduceSub, Nat.reduceLT, Nat.reduceLeDiff, Nat.reduceEqDiff, Nat.reduceBEq, Nat.reduceBNe, Nat.reduceGT, Nat.reduceDiv, Nat.reduceMod, Int.reduceAdd, Int.reduceSub, Int.reduceNeg, Int.reduceLT, Int.reduceLE, Int.reduceEq, Int.reduceToNat, fA]
  refine onF_data hr ?_ ?_
  · simp (maxSteps := 2000000) only [okA, ↓okP, Nat.reduceAdd, Nat.reduceMul, Nat.reduceSub, Nat.reduceLT, Nat.reduceLeDiff, Nat.reduceEqDiff, Nat.reduceBEq, ↓reduceIte, reduceCtorEq]
  simp (maxSteps := 2000000) only [vcA, ↓vcP, ↓reduceIte, reduceCtorEq, Nat.reduceAdd, Nat.reduceMul, Nat.reduceSub, Nat.reduceLT, Nat.reduceLeDiff, Nat.reduceEqDiff, Nat.reduceBEq, Nat.reduceBNe, Nat.reduceGT, Nat.reduceDiv, Nat.reduceMod, Int.reduceAdd, Int.reduceSub, Int.reduceNeg, Int.reduceLT, Int.reduceLE, Int.reduceEq, Int.reduceToNat, fA]
  refine onF_data (spoilt_spec v X s.long y s.wide (by have := hv.sle; omega) (by omega) (by omega) (by omega) (by omega)) ?_ ?_
  · simp (maxSteps := 2000000) only [okA, ↓okP, Nat.reduceAdd, Nat.reduceMul, Nat.reduceSub, Nat.reduceLT, Nat.reduceLeDiff, Nat.reduceEqDiff, Nat.reduceBEq, ↓reduceIte, reduceCtorEq]
  simp (maxSteps := 2000000) only [vcA, ↓vcP, ↓reduceIte, reduceCtorEq, Nat.reduceAdd, Nat.reduceMul, Nat.reduceSub, Nat.reduceLT, Nat.reduceLeDiff, Nat.reduceEqDiff, Nat.reduceBEq, Nat.reduceBNe, Nat.reduceGT, Nat.reduceDiv, Nat.reduceMod, Int.reduceAdd, Int.reduceSub, Int.reduceNeg, Int.reduceLT, Int.reduceLE, Int.reduceEq, Int.reduceToNat, fA, e2]
  refine ⟨fun h1 => ⟨fun h2 => hR _ (fin_of0 ?_), fun h2 => hR _ (fin_of0 ?_)⟩, fun h1 => hR _ (fin_of0 ?_)⟩
  · simp (maxSteps := 2000000) only [enA, ↓enP, Nat.reduceAdd, Nat.reduceMul, Nat.reduceSub, Nat.reduceLT, Nat.reduceLeDiff, Nat.reduceEqDiff, Nat.reduceBEq, ↓reduceIte, reduceCtorEq, fA]
    rw [Bool.eq_iff_iff, hsi]
    cases spoilt v X s.long y s.wide with
    | none => simp; omega
    | some t => simp
  · simp (maxSteps := 2000000) only [enA, ↓enP, Nat.reduceAdd, Nat.reduceMul, Nat.reduceSub, Nat.reduceLT, Nat.reduceLeDiff, Nat.reduceEqDiff, Nat.reduceBEq, ↓reduceIte, reduceCtorEq, fA]
    rw [Bool.eq_iff_iff, hsi]
    simp
    omega
  · simp (maxSteps := 2000000) only [enA, ↓enP, Nat.reduceAdd, Nat.reduceMul, Nat.reduceSub, Nat.reduceLT, Nat.reduceLeDiff, Nat.reduceEqDiff, Nat.reduceBEq, ↓reduceIte, reduceCtorEq, fA]
    rw [Bool.eq_iff_iff, hsi]
    simp
    omega
def badAt (v : Vw) (s : Sw) (l : List (Int × Int)) (i : Nat) : Bool := !soundI v s (nth l i) || (l.take i).any fun q => !apartI s (nth l i) q
def faultO (v : Vw) (s : Sw) (l : List (Int × Int)) : Option Nat := (List.range l.length).find? (badAt v s l)
theorem range_find {P : Nat → Bool} {n i : Nat} (hi : i < n) (hp : P i = true) (hx : ∀ j, j < i → P j = false) : (List.range n).find? P = some i := by
  have e : ∀ k, k < n → nth (List.range n) k = k := fun k hk => by
    have := nth_range (n := n) (f := id) (k := k) hk
    simpa using this
  have := find_some (l := List.range n) (p := P) (i := i) (by simpa using hi) (by rw [e i hi]; exact hp) (fun j hj => by rw [e j (by omega)]; exact hx j hj)
  rw [e i hi] at this
  exact this
theorem range_none {P : Nat → Bool} {n : Nat} (hx : ∀ j, j < n → P j = false) : (List.range n).find? P = none := by
  rw [List.find?_eq_none]
  intro j hj
  rw [hx j (List.mem_range.1 hj)]
  simp
def placesOk (b : Bl) (s : Sw) (l : List (Int × Int)) : Bool := l.all fun p => isPlace b.bottom.length s.long p.1 p.2
def faultR (b : Bl) (s : Sw) (l : List (Int × Int)) : Int × Int := if openErr b s ≠ 0 then (0, openErr b s) else if 400 < l.length then (0, 5) else if placesOk b s l = false then (0, 2) else match faultO (sureB b) s l with
  | some i => ((i : Int), 0)
  | none => (0, 7)
theorem notApart_spec (s : Sw) (p1 q : Int × Int) (hp : Near p1) (hq : Near q) (hs : sawOk s = true) : SpecG Try.prog 72 [.agg [.v (.int .i64 q.1), .v (.int .i64 q.2)], .ptr 0 0, .ptr 1 0] [.box 32 [.v (.int .i64 s.long), .v (.int .i64 s.wide), .v (.int .i64 s.kerf), .v (.int .i64 s.across)], .box 76 [.v (.int .i64 p1.1), .v (.int .i64 p1.2)]] (.v (.bool (!apartI s p1 q))) [.box 32 [.v (.int .i64 s.long), .v (.int .i64 s.wide), .v (.int .i64 s.kerf), .v (.int .i64 s.across)], .box 76 [.v (.int .i64 p1.1), .v (.int .i64 p1.2)]] := by
  refine spec_go (N := 10) (rs := [.tmp 4]) (eq := eqs) rfl rfl fun_72 rfl (by kernel_rfl) (by kernel_rfl) (by simp) (by simp) (by simp) (by simp) fun R hR => ?_
  simp (maxSteps := 2000000) only [vcA, ↓vcP, ↓reduceIte, reduceCtorEq, Nat.reduceAdd, Nat.reduceMul, Nat.reduceSub, Nat.reduceLT, Nat.reduceLeDiff, Nat.reduceEqDiff, Nat.reduceBEq, Nat.reduceBNe, Nat.reduceGT, Nat.reduceDiv, Nat.reduceMod, Int.reduceAdd, Int.reduceSub, Int.reduceNeg, Int.reduceLT, Int.reduceLE, Int.reduceEq, Int.reduceToNat, fA]
  refine onF_data (apart_spec s p1 q hp hq hs) ?_ ?_
  · simp (maxSteps := 2000000) only [okA, ↓okP, Nat.reduceAdd, Nat.reduceMul, Nat.reduceSub, Nat.reduceLT, Nat.reduceLeDiff, Nat.reduceEqDiff, Nat.reduceBEq, ↓reduceIte, reduceCtorEq]
  simp (maxSteps := 2000000) only [vcA, ↓vcP, ↓reduceIte, reduceCtorEq, Nat.reduceAdd, Nat.reduceMul, Nat.reduceSub, Nat.reduceLT, Nat.reduceLeDiff, Nat.reduceEqDiff, Nat.reduceBEq, Nat.reduceBNe, Nat.reduceGT, Nat.reduceDiv, Nat.reduceMod, Int.reduceAdd, Int.reduceSub, Int.reduceNeg, Int.reduceLT, Int.reduceLE, Int.reduceEq, Int.reduceToNat, fA]
  refine hR _ (fin_of1 [] ?_)
  simp (maxSteps := 2000000) only [enA, ↓enP, Nat.reduceAdd, Nat.reduceMul, Nat.reduceSub, Nat.reduceLT, Nat.reduceLeDiff, Nat.reduceEqDiff, Nat.reduceBEq, ↓reduceIte, reduceCtorEq, fA]
theorem fault_spec (b : Bl) (s : Sw) (l : List (Int × Int)) (h1 : b.bottom.length < 1000000) (h2 : b.top.length < 1000000) : SpecF Try.prog 33 [.agg [.sl 2 (b.bottom.map spR), .sl 2 (b.top.map spR), .v (.int .i64 b.bend), .sl 6 (b.cracks.map crR)], .agg [.v (.int .i64 s.long), .v (.int .i64 s.wide), .v (.int .i64 s.kerf), .v (.int .i64 s.across)], .sl 2 (l.map plcR)]
    (.tup [.v (.int .i64 (faultR b s l).1), .v (.int .i64 (faultR b s l).2)]) [] := by
  refine spec_go (N := 53) (rs := [.tmp 6, .tmp 7]) (eq := eqs) rfl rfl fun_33 rfl (by kernel_rfl) (by kernel_rfl) (by simp) (by simp) (by simp) (by simp) fun R hR => ?_
  simp (maxSteps := 2000000) only [vcA, ↓vcP, ↓reduceIte, reduceCtorEq, Nat.reduceAdd, Nat.reduceMul, Nat.reduceSub, Nat.reduceLT, Nat.reduceLeDiff, Nat.reduceEqDiff, Nat.reduceBEq, Nat.reduceBNe, Nat.reduceGT, Nat.reduceDiv, Nat.reduceMod, Int.reduceAdd, Int.reduceSub, Int.reduceNeg, Int.reduceLT, Int.reduceLE, Int.reduceEq, Int.reduceToNat, fA]
  refine onF_data (openF_spec b s h1 h2) ?_ ?_
  · simp (maxSteps := 2000000) only [okA, ↓okP, Nat.reduceAdd, Nat.reduceMul, Nat.reduceSub, Nat.reduceLT, Nat.reduceLeDiff, Nat.reduceEqDiff, Nat.reduceBEq, ↓reduceIte, reduceCtorEq]
  simp (maxSteps := 2000000) only [vcA, ↓vcP, ↓reduceIte, reduceCtorEq, Nat.reduceAdd, Nat.reduceMul, Nat.reduceSub, Nat.reduceLT, Nat.reduceLeDiff, Nat.reduceEqDiff, Nat.reduceBEq, Nat.reduceBNe, Nat.reduceGT, Nat.reduceDiv, Nat.reduceMod, Int.reduceAdd, Int.reduceSub, Int.reduceNeg, Int.reduceLT, Int.reduceLE, Int.reduceEq, Int.reduceToNat, fA]
  refine ⟨fun h3 => hR _ (fin_of0 ?_), fun h3 => ?_⟩
  · have h4 : openErr b s ≠ 0 := by simpa using h3
    have e1 : faultR b s l = (0, openErr b s) := by unfold faultR; rw [if_pos h4]
    rw [e1]
    simp (maxSteps := 2000000) only [enA, ↓enP, Nat.reduceAdd, Nat.reduceMul, Nat.reduceSub, Nat.reduceLT, Nat.reduceLeDiff, Nat.reduceEqDiff, Nat.reduceBEq, ↓reduceIte, reduceCtorEq, fA]
  have h4 : openErr b s = 0 := by simpa using h3
  obtain ⟨hN, hS⟩ := open_ok h4
  obtain ⟨n0, o1, o2, l1, l2, g1, g2, g3, _⟩ := new_ok hN
  have hS2 := hS
  unfold sawOk at hS2
  simp only [Bool.and_eq_true] at hS2
  have s1 := betw1 hS2.1.1
  rw [n0]
  refine ⟨fun h5 => hR _ (fin_of0 ?_), fun h5 => ?_⟩
  · have e1 : faultR b s l = (0, 5) := by unfold faultR; rw [if_neg (by rw [h4]; simp), if_pos (by omega)]
    rw [e1]
    simp (maxSteps := 2000000) only [enA, ↓enP, Nat.reduceAdd, Nat.reduceMul, Nat.reduceSub, Nat.reduceLT, Nat.reduceLeDiff, Nat.reduceEqDiff, Nat.reduceBEq, ↓reduceIte, reduceCtorEq, fA]
  have hple : l.length ≤ 400 := by omega
  refine onF_call (plb_contains b (newLow b) (newTop b) s l (by omega) (p := fun p => !isPlace (newLow b).length s.long p.1 p.2) (fun i hi => notPlace_spec b (newLow b) (newTop b) s (nth l i) (by omega) (by omega))) [] [] [88, 16] ?_ ?_
  · simp (maxSteps := 2000000) only [okA, ↓okP, Nat.reduceAdd, Nat.reduceMul, Nat.reduceSub, Nat.reduceLT, Nat.reduceLeDiff, Nat.reduceEqDiff, Nat.reduceBEq, ↓reduceIte, reduceCtorEq]
  simp (maxSteps := 2000000) only [vcA, ↓vcP, ↓reduceIte, reduceCtorEq, Nat.reduceAdd, Nat.reduceMul, Nat.reduceSub, Nat.reduceLT, Nat.reduceLeDiff, Nat.reduceEqDiff, Nat.reduceBEq, Nat.reduceBNe, Nat.reduceGT, Nat.reduceDiv, Nat.reduceMod, Int.reduceAdd, Int.reduceSub, Int.reduceNeg, Int.reduceLT, Int.reduceLE, Int.reduceEq, Int.reduceToNat, fA]
  have l0 : (newLow b).length = b.bottom.length := l1
  have hpk : placesOk b s l = !(l.any fun p => !isPlace (newLow b).length s.long p.1 p.2) := by
    unfold placesOk
    rw [l0, ← List.all_eq_not_any_not]
  refine ⟨fun h6 => hR _ (fin_of0 ?_), fun h6 => ?_⟩
  · have e1 : faultR b s l = (0, 2) := by
      unfold faultR
      rw [if_neg (by rw [h4]; simp), if_neg (by omega), if_pos (by rw [hpk, h6]; rfl)]
    rw [e1]
    simp (maxSteps := 2000000) only [enA, ↓enP, Nat.reduceAdd, Nat.reduceMul, Nat.reduceSub, Nat.reduceLT, Nat.reduceLeDiff, Nat.reduceEqDiff, Nat.reduceBEq, ↓reduceIte, reduceCtorEq, fA]
  have hpk2 : placesOk b s l = true := by rw [hpk, h6]; rfl
  have eR : faultR b s l = match faultO (sureB b) s l with
      | some i => ((i : Int), 0)
      | none => (0, 7) := by
    unfold faultR
    rw [if_neg (by rw [h4]; simp), if_neg (by omega), if_neg (by rw [hpk2]; simp)]
  have hok : (sureB b).Ok := sure_ok hN
  have hlow : (sureB b).bottom.length = b.bottom.length := by simp [sureB, sureV, l1]
  have hon : ∀ i, i < l.length → OnBlade (sureB b) s (nth l i) ∧ Near (nth l i) := fun i hi => by
    have := List.all_eq_true.1 hpk2 _ (nth_mem hi)
    unfold isPlace at this
    simp only [Bool.and_eq_true] at this
    have q1 := betw1 this.1
    have q2 := betw1 this.2
    refine ⟨⟨by omega, by omega, by omega, by omega⟩, ?_⟩
    unfold Near
    omega
  refine onF_data (sureF_spec b (newLow b) (newTop b) (by omega) (by omega) (by omega)) ?_ ?_
  · simp (maxSteps := 2000000) only [okA, ↓okP, Nat.reduceAdd, Nat.reduceMul, Nat.reduceSub, Nat.reduceLT, Nat.reduceLeDiff, Nat.reduceEqDiff, Nat.reduceBEq, ↓reduceIte, reduceCtorEq]
  have eB : sureV (newLow b) (newTop b) b.cracks = sureB b := rfl
  rw [eB]
  generalize sureB b = v at *
  simp (maxSteps := 2000000) only [vcA, ↓vcP, ↓reduceIte, reduceCtorEq, Nat.reduceAdd, Nat.reduceMul, Nat.reduceSub, Nat.reduceLT, Nat.reduceLeDiff, Nat.reduceEqDiff, Nat.reduceBEq, Nat.reduceBNe, Nat.reduceGT, Nat.reduceDiv, Nat.reduceMod, Int.reduceAdd, Int.reduceSub, Int.reduceNeg, Int.reduceLT, Int.reduceLE, Int.reduceEq, Int.reduceToNat, fA]
  refine goC_loop (α := {i : Nat // i ≤ l.length ∧ ∀ j, j < i → badAt v s l j = false}) (fun x => ⟨[(2, .sl 2 (l.map plcR)), (4, .ptr 16 0), (9, .ptr 216 0), (32, .sl 2 (l.map plcR)), (33, .v (.int .i64 l.length)), (34, .v (.int .i64 x.1))], [(16, .box 32 [.v (.int .i64 s.long), .v (.int .i64 s.wide), .v (.int .i64 s.kerf), .v (.int .i64 s.across)]), (216, .box 113 [.sl 1 (v.bottom.map iR), .sl 1 (v.top.map iR), .sl 4 (v.spoils.map spoR)])]⟩) (fun x => l.length - x.1) ⟨0, by omega, by omega⟩ [] ?_ ?_
  · simp (maxSteps := 2000000) only [enA, ↓enP, Nat.reduceAdd, Nat.reduceMul, Nat.reduceSub, Nat.reduceLT, Nat.reduceLeDiff, Nat.reduceEqDiff, Nat.reduceBEq, ↓reduceIte, reduceCtorEq, fA]
    rfl
  intro x B hB
  obtain ⟨i, hi, hx⟩ := x
  by_cases hc : i < l.length
  · have qc : (i < l.length) = True := eq_true hc
    have e3 : IntKind.i64.wrap ((i : Int) + 1) = ((i + 1 : Nat) : Int) := wrap_id (by omega) (by omega)
    obtain ⟨on, nr⟩ := hon i hc
    have hbad : badAt v s l i = (!soundI v s (nth l i) || (l.take i).any fun q => !apartI s (nth l i) q) := rfl
    have found : badAt v s l i = true → faultO v s l = some i := fun h => range_find hc h hx
    have htake : List.take i (List.map plcR l) = (l.take i).map plcR := by rw [List.map_take]
    have htl : (l.take i).length = i := by simp; omega
    simp (maxSteps := 2000000) only [vcA, ↓vcP, ↓reduceIte, reduceCtorEq, Nat.reduceAdd, Nat.reduceMul, Nat.reduceSub, Nat.reduceLT, Nat.reduceLeDiff, Nat.reduceEqDiff, Nat.reduceBEq, Nat.reduceBNe, Nat.reduceGT, Nat.reduceDiv, Nat.reduceMod, Int.reduceAdd, Int.reduceSub, Int.reduceNeg, Int.reduceLT, Int.reduceLE, Int.reduceEq, Int.reduceToNat, fA, qc, e3, plcR]
    refine onF_data (sound1_spec v s (nth l i) hok hS on) ?_ ?_
    · simp (maxSteps := 2000000) only [okA, ↓okP, Nat.reduceAdd, Nat.reduceMul, Nat.reduceSub, Nat.reduceLT, Nat.reduceLeDiff, Nat.reduceEqDiff, Nat.reduceBEq, ↓reduceIte, reduceCtorEq]
    simp (maxSteps := 2000000) only [vcA, ↓vcP, ↓reduceIte, reduceCtorEq, Nat.reduceAdd, Nat.reduceMul, Nat.reduceSub, Nat.reduceLT, Nat.reduceLeDiff, Nat.reduceEqDiff, Nat.reduceBEq, Nat.reduceBNe, Nat.reduceGT, Nat.reduceDiv, Nat.reduceMod, Int.reduceAdd, Int.reduceSub, Int.reduceNeg, Int.reduceLT, Int.reduceLE, Int.reduceEq, Int.reduceToNat, fA, qc, e3, htake]
    refine ⟨fun g1 => ⟨by omega, fun _ => ?_⟩, fun g1 => hR _ (fin_of0 ?_)⟩
    · refine onF_call (pls_contains s (nth l i) (l.take i) (by omega) (p := fun q => !apartI s (nth l i) q) (fun k hk => notApart_spec s (nth l i) (nth (l.take i) k) nr (by
        have e : nth (l.take i) k = nth l k := by
          unfold nth
          rw [List.getD_eq_getElem?_getD, List.getD_eq_getElem?_getD, List.getElem?_take, if_pos (by omega)]
        rw [e]
        exact (hon k (by omega)).2) hS)) [] [] [16, 320] ?_ ?_
      · simp (maxSteps := 2000000) only [okA, ↓okP, Nat.reduceAdd, Nat.reduceMul, Nat.reduceSub, Nat.reduceLT, Nat.reduceLeDiff, Nat.reduceEqDiff, Nat.reduceBEq, ↓reduceIte, reduceCtorEq]
      simp (maxSteps := 2000000) only [vcA, ↓vcP, ↓reduceIte, reduceCtorEq, Nat.reduceAdd, Nat.reduceMul, Nat.reduceSub, Nat.reduceLT, Nat.reduceLeDiff, Nat.reduceEqDiff, Nat.reduceBEq, Nat.reduceBNe, Nat.reduceGT, Nat.reduceDiv, Nat.reduceMod, Int.reduceAdd, Int.reduceSub, Int.reduceNeg, Int.reduceLT, Int.reduceLE, Int.reduceEq, Int.reduceToNat, fA, qc, e3]
      refine ⟨fun g2 => hR _ (fin_of0 ?_), fun g2 => hB _ ⟨i + 1, by omega, fun j hj => ?_⟩ [] (by simp only; omega) rfl ?_⟩
      · rw [eR, found (by rw [hbad, g2, Bool.or_true])]
        simp (maxSteps := 2000000) only [enA, ↓enP, Nat.reduceAdd, Nat.reduceMul, Nat.reduceSub, Nat.reduceLT, Nat.reduceLeDiff, Nat.reduceEqDiff, Nat.reduceBEq, ↓reduceIte, reduceCtorEq, fA]
      · by_cases e : j = i
        · subst e; rw [hbad, g1, g2]; rfl
        · exact hx j (by omega)
      · simp (maxSteps := 2000000) only [enA, ↓enP, Nat.reduceAdd, Nat.reduceMul, Nat.reduceSub, Nat.reduceLT, Nat.reduceLeDiff, Nat.reduceEqDiff, Nat.reduceBEq, ↓reduceIte, reduceCtorEq, fA]
    · rw [eR, found (by rw [hbad, g1]; rfl)]
      simp (maxSteps := 2000000) only [enA, ↓enP, Nat.reduceAdd, Nat.reduceMul, Nat.reduceSub, Nat.reduceLT, Nat.reduceLeDiff, Nat.reduceEqDiff, Nat.reduceBEq, ↓reduceIte, reduceCtorEq, fA]
  have qc : (i < l.length) = False := eq_false hc
  have none : faultO v s l = none := range_none fun j hj => hx j (by omega)
  simp (maxSteps := 2000000) only [vcA, ↓vcP, ↓reduceIte, reduceCtorEq, Nat.reduceAdd, Nat.reduceMul, Nat.reduceSub, Nat.reduceLT, Nat.reduceLeDiff, Nat.reduceEqDiff, Nat.reduceBEq, Nat.reduceBNe, Nat.reduceGT, Nat.reduceDiv, Nat.reduceMod, Int.reduceAdd, Int.reduceSub, Int.reduceNeg, Int.reduceLT, Int.reduceLE, Int.reduceEq, Int.reduceToNat, fA, qc]
  refine hR _ (fin_of0 ?_)
  rw [eR, none]
  simp (maxSteps := 2000000) only [enA, ↓enP, Nat.reduceAdd, Nat.reduceMul, Nat.reduceSub, Nat.reduceLT, Nat.reduceLeDiff, Nat.reduceEqDiff, Nat.reduceBEq, ↓reduceIte, reduceCtorEq, fA]
end Go.Proofs.Ytfaekiaegebmbaa.Ab.T01
