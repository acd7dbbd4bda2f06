/- Contracts of the outworkers' reference: what is known of a worker and a stuff. Contracts of the outworkers' reference: truths; what a worker has; where a stuff lies. -/
import Derived.Test.YtfnohamcmidgbaaZE1
namespace Go.Proofs.Ytfnohamcmidgbaa.Ab.T07
open Go Go.RowKit
set_option linter.unusedVariables false
set_option linter.unusedSimpArgs false
set_option maxRecDepth 100000
theorem loss_mono {L n m : Int} (hL : 0 ≤ L) (h : n ≤ m) : n * L / 1000 ≤ m * L / 1000 := Int.ediv_le_ediv (by omega) (Int.mul_le_mul_of_nonneg_right h hL)
theorem net_mono {L n m : Int} (hL : 0 ≤ L ∧ L ≤ 1000) (h : n ≤ m) : n - n * L / 1000 ≤ m - m * L / 1000 := by
  have h1 : (m - n) * L ≤ (m - n) * 1000 := Int.mul_le_mul_of_nonneg_left hL.2 (by omega)
  have h2 : m * L = n * L + (m - n) * L := by rw [← Int.add_mul]; congr 1; omega
  have h3 : m * L / 1000 ≤ (n * L + (m - n) * 1000) / 1000 := Int.ediv_le_ediv (by omega) (by omega)
  rw [Int.add_mul_ediv_right _ _ (by omega : (1000 : Int) ≠ 0)] at h3
  omega
/-- What is known, if the weights given out up to one are tried. -/
def gv (a : Ac) (n : Int) : Int := max 0 (n - loss a n - a.b2 - a.f2)
structure Kn where
  h : Sp
  f : Sp
  l : Sp
  t : Bool
def knA (k : Kn) : List AV := [.v (.int .i64 k.h.1), .v (.int .i64 k.h.2), .v (.int .i64 k.f.1), .v (.int .i64 k.f.2), .v (.int .i64 k.l.1), .v (.int .i64 k.l.2), .v (.bool k.t)]
def kn0 : Kn := ⟨(0, 0), (0, 0), (0, 0), false⟩
def knS (a : Ac) (j : Int) : Kn := if j ≤ max a.o1 (a.b1 + a.f1) then kn0 else ⟨(gv a (max a.o1 (a.b1 + a.f1)), j - 1 - (a.b1 + a.f1)), (a.f1, min a.f2 (j - 1 - a.b1)), (0, min (loss a (j - 1)) (j - 1 - (a.b1 + a.f1))), true⟩
def knI (a : Ac) : Kn := if 0 ≤ high a then ⟨has a, (a.f1, min a.f2 (a.o2 - a.b1)), (0, min (loss a a.o2) (high a)), true⟩ else kn0
/-- An account with bounds that the reference can bear. -/
structure Ac.Br (a : Ac) : Prop where
  o : 0 ≤ a.o1 ∧ a.o1 ≤ a.o2 ∧ a.o2 ≤ 2700000
  b : 0 ≤ a.b1 ∧ a.b1 ≤ a.b2 ∧ a.b2 ≤ 2700000
  f : 0 ≤ a.f1 ∧ a.f1 ≤ a.f2 ∧ a.f2 ≤ 2700000000
  l : 0 ≤ a.lo ∧ a.lo ≤ 1000
theorem knS_end {a : Ac} (ha : a.Br) : knS a (a.o2 + 1) = knI a := by
  obtain ⟨h1, h2, h3, h4⟩ := ha
  unfold knS knI
  by_cases c : 0 ≤ high a
  · have c' : a.b1 + a.f1 ≤ a.o2 := by unfold high at c; omega
    rw [if_neg (by omega), if_pos c]
    have e1 : a.o2 + 1 - 1 = a.o2 := by omega
    rw [e1]
    have e2 : a.o2 - (a.b1 + a.f1) = high a := by unfold high; omega
    rw [e2]
    congr 1
    unfold has
    congr 1
    unfold gv
    by_cases c2 : a.b1 + a.f1 ≤ a.o1
    · rw [show max a.o1 (a.b1 + a.f1) = a.o1 by omega]
    · rw [show max a.o1 (a.b1 + a.f1) = a.b1 + a.f1 by omega]
      have l1 : 0 ≤ loss a (a.b1 + a.f1) := by unfold loss; exact Int.ediv_nonneg (Int.mul_nonneg (by omega) h4.1) (by omega)
      have l2 : 0 ≤ loss a a.o1 := by unfold loss; exact Int.ediv_nonneg (Int.mul_nonneg (by omega) h4.1) (by omega)
      omega
  · have c' : ¬ a.b1 + a.f1 ≤ a.o2 := by unfold high at c; omega
    rw [if_pos (by omega), if_neg c]
theorem knS_low {a : Ac} {j : Int} (hj : j - a.b1 - a.f1 < 0) : knS a (j + 1) = knS a j := by
  unfold knS
  rw [if_pos (by omega), if_pos (by omega)]
/-- A span with two more. -/
def wid (s : Sp) (first : Bool) (n m : Int) : Sp := if first then (n, m) else (min s.1 n, max s.2 m)
theorem knS_step {a : Ac} (ha : a.Br) {j : Int} (h0 : a.o1 ≤ j) (hj : ¬ j - a.b1 - a.f1 < 0) : knS a (j + 1) = ⟨wid (knS a j).h (!(knS a j).t) (gv a j) (j - a.b1 - a.f1), wid (knS a j).f (!(knS a j).t) a.f1 (min a.f2 (j - a.b1)), wid (knS a j).l (!(knS a j).t) 0 (min (loss a j) (j - a.b1 - a.f1)), true⟩ := by
  obtain ⟨h1, h2, h3, h4⟩ := ha
  have hs : knS a (j + 1) = ⟨(gv a (max a.o1 (a.b1 + a.f1)), j + 1 - 1 - (a.b1 + a.f1)), (a.f1, min a.f2 (j + 1 - 1 - a.b1)), (0, min (loss a (j + 1 - 1)) (j + 1 - 1 - (a.b1 + a.f1))), true⟩ := by
    unfold knS; rw [if_neg (by omega)]
  rw [hs, show j + 1 - 1 = j by omega]
  by_cases c : j ≤ max a.o1 (a.b1 + a.f1)
  · have e : knS a j = kn0 := by unfold knS; rw [if_pos c]
    have ej : max a.o1 (a.b1 + a.f1) = j := by omega
    rw [e, ej]
    unfold wid kn0
    simp only [Bool.not_false, if_true]
    congr 2
    · omega
    · congr 1; omega
  · have e : knS a j = ⟨(gv a (max a.o1 (a.b1 + a.f1)), j - 1 - (a.b1 + a.f1)), (a.f1, min a.f2 (j - 1 - a.b1)), (0, min (loss a (j - 1)) (j - 1 - (a.b1 + a.f1))), true⟩ := by unfold knS; rw [if_neg c]
    rw [e]
    unfold wid
    simp only [Bool.not_true, Bool.false_eq_true, if_false]
    have m1 := net_mono (L := a.lo) h4 (n := max a.o1 (a.b1 + a.f1)) (m := j) (by omega)
    have m2 := loss_mono (L := a.lo) h4.1 (n := j - 1) (m := j) (by omega)
    have l1 : gv a (max a.o1 (a.b1 + a.f1)) ≤ gv a j := by unfold gv loss; omega
    unfold loss
    simp only [Kn.mk.injEq, and_true]
    refine ⟨?_, ?_, ?_⟩ <;> exact Prod.ext (by simp only; omega) (by simp only; omega)
theorem wider_spec (s : Sp) (first : Bool) (n m : Int) : SpecF Try.prog 97 [.agg [.v (.int .i64 s.1), .v (.int .i64 s.2)], .v (.bool first), .v (.int .i64 n), .v (.int .i64 m)] (.agg [.v (.int .i64 (wid s first n m).1), .v (.int .i64 (wid s first n m).2)]) [] := by
  unfold wid
  refine spec_go (N := 22) (rs := [.cell 8 60]) (eq := eqs) rfl rfl fun_97 rfl (by kernel_rfl) (by kernel_rfl) (by simp) (by simp) (by simp) (by simp) fun R hR => ?_
  cases first
  all_goals
    simp (maxSteps := 2000000) only [vcA, ↓vcP, ↓reduceIte, reduceCtorEq, Nat.reduceAdd, Nat.reduceMul, Nat.reduceSub, Nat.reduceLT, Nat.reduceLeDiff, Nat.reduceEqDiff, Nat.reduceBEq, Nat.reduceBNe, Nat.reduceGT, Nat.reduceDiv, Nat.reduceMod, Int.reduceAdd, Int.reduceSub, Int.reduceNeg, Int.reduceLT, Int.reduceLE, Int.reduceEq, Int.reduceToNat, fA]
    refine hR _ (fin_of0 ?_)
    simp (maxSteps := 2000000) only [enA, ↓enP, Nat.reduceAdd, Nat.reduceMul, Nat.reduceSub, Nat.reduceLT, Nat.reduceLeDiff, Nat.reduceEqDiff, Nat.reduceBEq, ↓reduceIte, reduceCtorEq, fA]
    try exact ⟨rfl, rfl⟩
theorem acc_lo (h : Hs) (b : List En) (w s : Int) (fr : Nat → Bool) : ∀ n, (accN h b w s fr n).lo = nth h.lo s.toNat
  | 0 => rfl
  | n + 1 => by
    have i := acc_lo h b w s fr n
    simp only [accN, accS]
    split
    · exact i
    · split
      · exact i
      · split
        · exact i
        · split <;> exact i
theorem acc_br {h : Hs} {b : List En} (hb : OkR h b) {w s : Int} (hs : 0 ≤ s ∧ s < h.tk.length) : (acc h b w s nof).Br ∧ (acc h b w s nof).f1 = fcN b w b.length * (nth h.tk s.toNat).1 ∧ (acc h b w s nof).f2 = fcN b w b.length * (nth h.tk s.toNat).2 ∧ (acc h b w s nof).lo = nth h.lo s.toNat ∧ 0 ≤ fcN b w b.length ∧ fcN b w b.length ≤ 2600000 := by
  obtain ⟨d1, d2, d3, d4⟩ := sum_bd hb w s b.length (Nat.le_refl _)
  obtain ⟨g1, g2⟩ := acc_fc h b w s b.length
  have hl := hb.len
  have ht := hb.hs.tks _ (nth_mem (l := h.tk) (i := s.toNat) (by omega))
  have hlo := hb.hs.los _ (nth_mem (l := h.lo) (i := s.toNat) (by have := hb.hs.lo; omega))
  have m1 := mul_bd (a := fcN b w b.length) (b := (nth h.tk s.toNat).1) (M := fcN b w b.length) (N := (nth h.tk s.toNat).2) (by omega) (Int.le_refl _) (by omega) (by omega)
  have m2 := mul_bd (a := fcN b w b.length) (b := (nth h.tk s.toNat).2) (M := 2600000) (N := 1000) (by omega) (by omega) (by omega) (by omega)
  have hL := acc_lo h b w s nof b.length
  refine ⟨⟨⟨d1.1, d1.2.1, by unfold acc; omega⟩, ⟨d2.1, d2.2.1, by unfold acc; omega⟩, ⟨?_, ?_, ?_⟩, ?_⟩, g1, g2, hL, d3, by omega⟩
  all_goals
    unfold acc
  · rw [g1]; exact m1.1
  · rw [g1, g2]; exact m1.2
  · rw [g2]; omega
  · rw [hL]; exact hlo
set_option maxHeartbeats 8000000 in
theorem know_spec (h : Hs) (b : List En) (w s : Int) (hb : OkR h b) (hk : kinds b) (hs : 0 ≤ s ∧ s < h.tk.length) : SpecF Try.prog 67 [.agg [.v (.int .i64 h.sc), .sl 2 (h.tk.map spR), .sl 1 (h.lo.map iR)], .sl 4 (b.map enR), .v (.int .i64 w), .v (.int .i64 s)] (.agg (knA (knI (acc h b w s nof)))) [] := by
  have hsum := sum_spec h b w s hb hk
  obtain ⟨hbr, e1, e2, e3, d1, d2⟩ := acc_br hb (w := w) hs
  have hA : accN h b w s nof b.length = acc h b w s nof := rfl
  have hlo := hb.hs.lo
  have s1 : (0 ≤ s) = True := eq_true hs.1
  have s2 : (s < (h.lo.length : Int)) = True := eq_true (by omega)
  have s3 : (s < (h.tk.length : Int)) = True := eq_true (by omega)
  have s4 : s.toNat < h.tk.length := by omega
  have s5 : s.toNat < h.lo.length := by omega
  unfold sumA at hsum
  rw [hA] at hsum
  have hend := knS_end hbr
  generalize acc h b w s nof = a at hsum hbr e1 e2 e3 hend
  generalize fcN b w b.length = fc at hsum e1 e2 d1 d2
  rw [← hend]
  obtain ⟨b1, b2, b3, b4⟩ := hbr
  unfold knA
  refine spec_go (N := 118) (rs := [.cell 8 95]) (eq := eqs) rfl rfl fun_67 rfl (by kernel_rfl) (by kernel_rfl) (by simp) (by simp) (by simp) (by simp) fun R hR => ?_
  simp (maxSteps := 2000000) only [vcA, ↓vcP, ↓reduceIte, reduceCtorEq, Nat.reduceAdd, Nat.reduceMul, Nat.reduceSub, Nat.reduceLT, Nat.reduceLeDiff, Nat.reduceEqDiff, Nat.reduceBEq, Nat.reduceBNe, Nat.reduceGT, Nat.reduceDiv, Nat.reduceMod, Int.reduceAdd, Int.reduceSub, Int.reduceNeg, Int.reduceLT, Int.reduceLE, Int.reduceEq, Int.reduceToNat, fA]
  refine onF_data hsum ?_ ?_
  · simp (maxSteps := 2000000) only [okA, ↓okP, Nat.reduceAdd, Nat.reduceMul, Nat.reduceSub, Nat.reduceLT, Nat.reduceLeDiff, Nat.reduceEqDiff, Nat.reduceBEq, ↓reduceIte, reduceCtorEq]
  simp (maxSteps := 2000000) only [vcA, ↓vcP, ↓reduceIte, reduceCtorEq, Nat.reduceAdd, Nat.reduceMul, Nat.reduceSub, Nat.reduceLT, Nat.reduceLeDiff, Nat.reduceEqDiff, Nat.reduceBEq, Nat.reduceBNe, Nat.reduceGT, Nat.reduceDiv, Nat.reduceMod, Int.reduceAdd, Int.reduceSub, Int.reduceNeg, Int.reduceLT, Int.reduceLE, Int.reduceEq, Int.reduceToNat, fA, s1, s3, s4, spR]
  repeat (first | refine ⟨by kernel_rfl, ?_⟩ | refine ⟨⟨by kernel_rfl, by kernel_rfl⟩, ?_⟩ | refine ⟨⟨by kernel_rfl, by kernel_rfl, by kernel_rfl⟩, ?_⟩ | refine ⟨⟨by kernel_rfl, by kernel_rfl, by kernel_rfl, by kernel_rfl⟩, ?_⟩ | refine ⟨⟨by kernel_rfl, by kernel_rfl, by kernel_rfl, by kernel_rfl, by kernel_rfl⟩, ?_⟩ | refine ⟨⟨by kernel_rfl, by kernel_rfl, by kernel_rfl, by kernel_rfl, by kernel_rfl, by kernel_rfl⟩, ?_⟩ | refine ⟨⟨by kernel_rfl, by kernel_rfl, by kernel_rfl, by kernel_rfl, by kernel_rfl, by kernel_rfl, by kernel_rfl⟩, ?_⟩ | refine ⟨⟨by kernel_rfl, by kernel_rfl, by kernel_rfl, by kernel_rfl, by kernel_rfl, by kernel_rfl, by kernel_rfl, by kernel_rfl⟩, ?_⟩ | refine ⟨⟨by kernel_rfl, by kernel_rfl, by kernel_rfl, by kernel_rfl, by kernel_rfl, by kernel_rfl, by kernel_rfl, by kernel_rfl, by kernel_rfl⟩, ?_⟩ | refine ⟨⟨by kernel_rfl, by kernel_rfl, by kernel_rfl, by kernel_rfl, by kernel_rfl, by kernel_rfl, by kernel_rfl, by kernel_rfl, by kernel_rfl, by kernel_rfl⟩, ?_⟩ | refine ⟨⟨by kernel_rfl, by kernel_rfl, by kernel_rfl, by kernel_rfl, by kernel_rfl, by kernel_rfl, by kernel_rfl, by kernel_rfl, by kernel_rfl, by kernel_rfl, by kernel_rfl⟩, ?_⟩ | refine ⟨⟨by kernel_rfl, by kernel_rfl, by kernel_rfl, by kernel_rfl, by kernel_rfl, by kernel_rfl, by kernel_rfl, by kernel_rfl, by kernel_rfl, by kernel_rfl, by kernel_rfl, by kernel_rfl⟩, ?_⟩ | refine ⟨⟨by kernel_rfl, by kernel_rfl, by kernel_rfl, by kernel_rfl, by kernel_rfl, by kernel_rfl, by kernel_rfl, by kernel_rfl, by kernel_rfl, by kernel_rfl, by kernel_rfl, by kernel_rfl, by kernel_rfl⟩, ?_⟩)
  have w1 : IntKind.i64.wrap (fc * (nth h.tk s.toNat).1) = a.f1 := by rw [← e1]; exact wrap_id (by omega) (by omega)
  have w2 : IntKind.i64.wrap (fc * (nth h.tk s.toNat).2) = a.f2 := by rw [← e2]; exact wrap_id (by omega) (by omega)
  refine goC_loop (α := {j : Int // a.o1 ≤ j ∧ j ≤ a.o2 + 1}) (fun y => ⟨[(3, .v (.int .i64 s)), (4, .ptr 8 0), (8, .ptr 16 0), (9, .ptr 112 0), (10, .ptr 120 0), (11, .ptr 128 0), (12, .v (.int .i64 y.1))], [(8, .box 25 [.v (.int .i64 h.sc), .sl 2 (h.tk.map spR), .sl 1 (h.lo.map iR)]), (16, .box 95 [.v (.int .i64 0), .v (.int .i64 0), .v (.int .i64 0), .v (.int .i64 0), .v (.int .i64 0), .v (.int .i64 0), .v (.bool false)]), (112, .box 117 [.v (.int .i64 a.o1), .v (.int .i64 a.o2), .v (.int .i64 a.b1), .v (.int .i64 a.b2), .v (.int .i64 fc), .v (.int .i64 fc)]), (120, .box 60 [.v (.int .i64 (nth h.tk s.toNat).1), .v (.int .i64 (nth h.tk s.toNat).2)]), (128, .box 95 (knA (knS a y.1)))]⟩) (fun y => (a.o2 + 1 - y.1).toNat) ⟨a.o1, Int.le_refl _, by omega⟩ [] ?_ ?_
  · have e0 : knS a a.o1 = kn0 := by unfold knS; rw [if_pos (by omega)]
    simp only [e0, knA, kn0]
    simp (maxSteps := 2000000) only [enA, ↓enP, Nat.reduceAdd, Nat.reduceMul, Nat.reduceSub, Nat.reduceLT, Nat.reduceLeDiff, Nat.reduceEqDiff, Nat.reduceBEq, ↓reduceIte, reduceCtorEq, fA]
  intro y B hB
  obtain ⟨j, hj1, hj2⟩ := y
  simp only [knA] at hB ⊢
  by_cases c1 : j ≤ a.o2
  · have q1 : (j ≤ a.o2) = True := eq_true c1
    have w0 : IntKind.i64.wrap (j + 1) = j + 1 := wrap_id (by omega) (by omega)
    have w3 : IntKind.i64.wrap (j - a.b1) = j - a.b1 := wrap_id (by omega) (by omega)
    have w4 : IntKind.i64.wrap (j - a.b1 - a.f1) = j - a.b1 - a.f1 := wrap_id (by omega) (by omega)
    by_cases c2 : j - a.b1 - a.f1 < 0
    · have q2 : (j - a.b1 - a.f1 < 0) = True := eq_true c2
      have e5 := knS_low c2
      simp (maxSteps := 2000000) only [vcA, ↓vcP, ↓reduceIte, reduceCtorEq, Nat.reduceAdd, Nat.reduceMul, Nat.reduceSub, Nat.reduceLT, Nat.reduceLeDiff, Nat.reduceEqDiff, Nat.reduceBEq, Nat.reduceBNe, Nat.reduceGT, Nat.reduceDiv, Nat.reduceMod, Int.reduceAdd, Int.reduceSub, Int.reduceNeg, Int.reduceLT, Int.reduceLE, Int.reduceEq, Int.reduceToNat, fA, q1, w0, w1, w3, w4, q2]
      refine hB _ ⟨j + 1, by omega, by omega⟩ [] (by simp only; omega) rfl ?_
      rw [e5]
      simp (maxSteps := 2000000) only [enA, ↓enP, Nat.reduceAdd, Nat.reduceMul, Nat.reduceSub, Nat.reduceLT, Nat.reduceLeDiff, Nat.reduceEqDiff, Nat.reduceBEq, ↓reduceIte, reduceCtorEq, fA]
    · have q2 : (j - a.b1 - a.f1 < 0) = False := eq_false c2
      have e5 := knS_step ⟨b1, b2, b3, b4⟩ hj1 c2
      have m := mul_bd (a := j) (b := a.lo) (M := 2700000) (N := 1000) (by omega) (by omega) (by omega) (by omega)
      have ml : 0 ≤ loss a j ∧ loss a j ≤ 2700000 := by unfold loss; omega
      have w5 : IntKind.i64.wrap (j * nth h.lo s.toNat) = j * nth h.lo s.toNat := by rw [← e3]; exact wrap_id (by omega) (by omega)
      have w6 : (j * nth h.lo s.toNat).tdiv 1000 = loss a j := by rw [← e3]; exact quo_of m.1
      have w7 : IntKind.i64.wrap (loss a j) = loss a j := wrap_id (by omega) (by omega)
      have w8 : IntKind.i64.wrap (j - loss a j) = j - loss a j := wrap_id (by omega) (by omega)
      have w9 : IntKind.i64.wrap (j - loss a j - a.b2) = j - loss a j - a.b2 := wrap_id (by omega) (by omega)
      have w10 : IntKind.i64.wrap (j - loss a j - a.b2 - a.f2) = j - loss a j - a.b2 - a.f2 := wrap_id (by omega) (by omega)
      have hg : max 0 (j - loss a j - a.b2 - a.f2) = gv a j := rfl
      generalize knS a j = k at e5 ⊢
      simp (maxSteps := 2000000) only [vcA, ↓vcP, ↓reduceIte, reduceCtorEq, Nat.reduceAdd, Nat.reduceMul, Nat.reduceSub, Nat.reduceLT, Nat.reduceLeDiff, Nat.reduceEqDiff, Nat.reduceBEq, Nat.reduceBNe, Nat.reduceGT, Nat.reduceDiv, Nat.reduceMod, Int.reduceAdd, Int.reduceSub, Int.reduceNeg, Int.reduceLT, Int.reduceLE, Int.reduceEq, Int.reduceToNat, fA, q1, w1, w2, w3, w4, q2, s1, s2, s5, iR, w5, w6, w7, w8, w9, w10, hg]
      refine onF_data (wider_spec k.h (!k.t) (gv a j) (j - a.b1 - a.f1)) ?_ ?_
      · simp (maxSteps := 2000000) only [okA, ↓okP, Nat.reduceAdd, Nat.reduceMul, Nat.reduceSub, Nat.reduceLT, Nat.reduceLeDiff, Nat.reduceEqDiff, Nat.reduceBEq, ↓reduceIte, reduceCtorEq]
      simp (maxSteps := 2000000) only [vcA, ↓vcP, ↓reduceIte, reduceCtorEq, Nat.reduceAdd, Nat.reduceMul, Nat.reduceSub, Nat.reduceLT, Nat.reduceLeDiff, Nat.reduceEqDiff, Nat.reduceBEq, Nat.reduceBNe, Nat.reduceGT, Nat.reduceDiv, Nat.reduceMod, Int.reduceAdd, Int.reduceSub, Int.reduceNeg, Int.reduceLT, Int.reduceLE, Int.reduceEq, Int.reduceToNat, fA, w1, w2, w3]
      refine onF_data (wider_spec k.f (!k.t) a.f1 (min a.f2 (j - a.b1))) ?_ ?_
      · simp (maxSteps := 2000000) only [okA, ↓okP, Nat.reduceAdd, Nat.reduceMul, Nat.reduceSub, Nat.reduceLT, Nat.reduceLeDiff, Nat.reduceEqDiff, Nat.reduceBEq, ↓reduceIte, reduceCtorEq]
      simp (maxSteps := 2000000) only [vcA, ↓vcP, ↓reduceIte, reduceCtorEq, Nat.reduceAdd, Nat.reduceMul, Nat.reduceSub, Nat.reduceLT, Nat.reduceLeDiff, Nat.reduceEqDiff, Nat.reduceBEq, Nat.reduceBNe, Nat.reduceGT, Nat.reduceDiv, Nat.reduceMod, Int.reduceAdd, Int.reduceSub, Int.reduceNeg, Int.reduceLT, Int.reduceLE, Int.reduceEq, Int.reduceToNat, fA]
      refine onF_data (wider_spec k.l (!k.t) 0 (min (loss a j) (j - a.b1 - a.f1))) ?_ ?_
      · simp (maxSteps := 2000000) only [okA, ↓okP, Nat.reduceAdd, Nat.reduceMul, Nat.reduceSub, Nat.reduceLT, Nat.reduceLeDiff, Nat.reduceEqDiff, Nat.reduceBEq, ↓reduceIte, reduceCtorEq]
      simp (maxSteps := 2000000) only [vcA, ↓vcP, ↓reduceIte, reduceCtorEq, Nat.reduceAdd, Nat.reduceMul, Nat.reduceSub, Nat.reduceLT, Nat.reduceLeDiff, Nat.reduceEqDiff, Nat.reduceBEq, Nat.reduceBNe, Nat.reduceGT, Nat.reduceDiv, Nat.reduceMod, Int.reduceAdd, Int.reduceSub, Int.reduceNeg, Int.reduceLT, Int.reduceLE, Int.reduceEq, Int.reduceToNat, fA, w0]
      refine hB _ ⟨j + 1, by omega, by omega⟩ [] (by simp only; omega) rfl ?_
      rw [e5]
      simp (maxSteps := 2000000) only [enA, ↓enP, Nat.reduceAdd, Nat.reduceMul, Nat.reduceSub, Nat.reduceLT, Nat.reduceLeDiff, Nat.reduceEqDiff, Nat.reduceBEq, ↓reduceIte, reduceCtorEq, fA]
  · have q1 : (j ≤ a.o2) = False := eq_false c1
    have : j = a.o2 + 1 := by omega
    subst this
    simp (maxSteps := 2000000) only [vcA, ↓vcP, ↓reduceIte, reduceCtorEq, Nat.reduceAdd, Nat.reduceMul, Nat.reduceSub, Nat.reduceLT, Nat.reduceLeDiff, Nat.reduceEqDiff, Nat.reduceBEq, Nat.reduceBNe, Nat.reduceGT, Nat.reduceDiv, Nat.reduceMod, Int.reduceAdd, Int.reduceSub, Int.reduceNeg, Int.reduceLT, Int.reduceLE, Int.reduceEq, Int.reduceToNat, fA, q1]
    refine hR _ (fin_of0 ?_)
    simp (maxSteps := 2000000) only [enA, ↓enP, Nat.reduceAdd, Nat.reduceMul, Nat.reduceSub, Nat.reduceLT, Nat.reduceLeDiff, Nat.reduceEqDiff, Nat.reduceBEq, ↓reduceIte, reduceCtorEq, fA]
end Go.Proofs.Ytfnohamcmidgbaa.Ab.T07
namespace Go.Proofs.Ytfnohamcmidgbaa.Ab.T07
open Go Go.RowKit
set_option linter.unusedVariables false
set_option linter.unusedSimpArgs false
set_option maxRecDepth 100000
theorem knI_t (a : Ac) : (knI a).t = decide (0 ≤ high a) := by
  unfold knI
  by_cases c : 0 ≤ high a
  · rw [if_pos c]; simp [c]
  · rw [if_neg c]; simp [c, kn0]
theorem knI_true {a : Ac} (h : 0 ≤ high a) : knI a = ⟨has a, (a.f1, min a.f2 (a.o2 - a.b1)), (0, min (loss a a.o2) (high a)), true⟩ := by unfold knI; rw [if_pos h]
theorem true_spec (h : Hs) (b : List En) (hb : Ok h b) : SpecF Try.prog 66 [.agg [.v (.int .i64 h.sc), .sl 2 (h.tk.map spR), .sl 1 (h.lo.map iR)], .sl 4 (b.map enR)] (.v (.bool (trueB h b nof))) [] := by
  have hlen := hb.hs.tk
  refine spec_go (N := 25) (rs := [.tmp 4]) (eq := eqs) rfl rfl fun_66 rfl (by kernel_rfl) (by kernel_rfl) (by simp) (by simp) (by simp) (by simp) fun R hR => ?_
  simp (maxSteps := 2000000) only [vcA, ↓vcP, ↓reduceIte, reduceCtorEq, Nat.reduceAdd, Nat.reduceMul, Nat.reduceSub, Nat.reduceLT, Nat.reduceLeDiff, Nat.reduceEqDiff, Nat.reduceBEq, Nat.reduceBNe, Nat.reduceGT, Nat.reduceDiv, Nat.reduceMod, Int.reduceAdd, Int.reduceSub, Int.reduceNeg, Int.reduceLT, Int.reduceLE, Int.reduceEq, Int.reduceToNat, fA]
  refine goC_loop (α := {w : Nat // w ≤ 6 ∧ ∀ j, j < w → okW h b nof j = true}) (fun y => ⟨[(1, .sl 4 (b.map enR)), (2, .ptr 8 0), (5, .v (.int .i64 y.1))], [(8, .box 25 [.v (.int .i64 h.sc), .sl 2 (h.tk.map spR), .sl 1 (h.lo.map iR)])]⟩) (fun y => 6 - y.1) ⟨0, by omega, by omega⟩ [] ?_ ?_
  · simp (maxSteps := 2000000) only [enA, ↓enP, Nat.reduceAdd, Nat.reduceMul, Nat.reduceSub, Nat.reduceLT, Nat.reduceLeDiff, Nat.reduceEqDiff, Nat.reduceBEq, ↓reduceIte, reduceCtorEq, fA]
    rfl
  intro y B hB
  obtain ⟨w, hw, hx⟩ := y
  by_cases c1 : w < 6
  · have q1 : ((w : Int) < 6) = True := eq_true (by omega)
    have e0 : IntKind.i64.wrap ((w : Int) + 1) = ((w + 1 : Nat) : Int) := wrap_id (by omega) (by omega)
    simp (maxSteps := 2000000) only [vcA, ↓vcP, ↓reduceIte, reduceCtorEq, Nat.reduceAdd, Nat.reduceMul, Nat.reduceSub, Nat.reduceLT, Nat.reduceLeDiff, Nat.reduceEqDiff, Nat.reduceBEq, Nat.reduceBNe, Nat.reduceGT, Nat.reduceDiv, Nat.reduceMod, Int.reduceAdd, Int.reduceSub, Int.reduceNeg, Int.reduceLT, Int.reduceLE, Int.reduceEq, Int.reduceToNat, fA, q1]
    refine goC_loop (α := {s : Nat // s ≤ h.tk.length ∧ ∀ j : Nat, j < s → 0 ≤ high (acc h b w j nof)}) (fun y => ⟨[(1, .sl 4 (b.map enR)), (2, .ptr 8 0), (5, .v (.int .i64 w)), (6, .v (.int .i64 y.1))], [(8, .box 25 [.v (.int .i64 h.sc), .sl 2 (h.tk.map spR), .sl 1 (h.lo.map iR)])]⟩) (fun y => h.tk.length - y.1) ⟨0, by omega, by omega⟩ [] ?_ ?_
    · simp (maxSteps := 2000000) only [enA, ↓enP, Nat.reduceAdd, Nat.reduceMul, Nat.reduceSub, Nat.reduceLT, Nat.reduceLeDiff, Nat.reduceEqDiff, Nat.reduceBEq, ↓reduceIte, reduceCtorEq, fA]
      rfl
    intro y B2 hB2
    obtain ⟨s, hs, hy⟩ := y
    by_cases c2 : s < h.tk.length
    · have q2 : (s < h.tk.length) = True := eq_true c2
      have e3 : IntKind.i64.wrap ((s : Int) + 1) = ((s + 1 : Nat) : Int) := wrap_id (by omega) (by omega)
      have hkn := know_spec h b w s hb.r hb.kinds (by omega)
      have ht := knI_t (acc h b w s nof)
      unfold knA at hkn
      rw [ht] at hkn
      simp (maxSteps := 2000000) only [vcA, ↓vcP, ↓reduceIte, reduceCtorEq, Nat.reduceAdd, Nat.reduceMul, Nat.reduceSub, Nat.reduceLT, Nat.reduceLeDiff, Nat.reduceEqDiff, Nat.reduceBEq, Nat.reduceBNe, Nat.reduceGT, Nat.reduceDiv, Nat.reduceMod, Int.reduceAdd, Int.reduceSub, Int.reduceNeg, Int.reduceLT, Int.reduceLE, Int.reduceEq, Int.reduceToNat, fA, q2]
      refine onF_data hkn ?_ ?_
      · simp (maxSteps := 2000000) only [okA, ↓okP, Nat.reduceAdd, Nat.reduceMul, Nat.reduceSub, Nat.reduceLT, Nat.reduceLeDiff, Nat.reduceEqDiff, Nat.reduceBEq, ↓reduceIte, reduceCtorEq]
      by_cases c3 : 0 ≤ high (acc h b w s nof)
      · rw [decide_eq_true c3]
        simp (maxSteps := 2000000) only [vcA, ↓vcP, ↓reduceIte, reduceCtorEq, Nat.reduceAdd, Nat.reduceMul, Nat.reduceSub, Nat.reduceLT, Nat.reduceLeDiff, Nat.reduceEqDiff, Nat.reduceBEq, Nat.reduceBNe, Nat.reduceGT, Nat.reduceDiv, Nat.reduceMod, Int.reduceAdd, Int.reduceSub, Int.reduceNeg, Int.reduceLT, Int.reduceLE, Int.reduceEq, Int.reduceToNat, fA, e3]
        refine hB2 _ ⟨s + 1, by omega, fun j hj => ?_⟩ [] (by simp only; omega) rfl ?_
        · by_cases e : j = s
          · rw [e]; exact c3
          · exact hy j (by omega)
        · simp (maxSteps := 2000000) only [enA, ↓enP, Nat.reduceAdd, Nat.reduceMul, Nat.reduceSub, Nat.reduceLT, Nat.reduceLeDiff, Nat.reduceEqDiff, Nat.reduceBEq, ↓reduceIte, reduceCtorEq, fA]
      · rw [decide_eq_false c3]
        have e : trueB h b nof = false := by
          cases hT : trueB h b nof with
          | false => rfl
          | true => exact absurd (okW_iff.1 (trueB_iff.1 hT w c1) s c2) c3
        simp (maxSteps := 2000000) only [vcA, ↓vcP, ↓reduceIte, reduceCtorEq, Nat.reduceAdd, Nat.reduceMul, Nat.reduceSub, Nat.reduceLT, Nat.reduceLeDiff, Nat.reduceEqDiff, Nat.reduceBEq, Nat.reduceBNe, Nat.reduceGT, Nat.reduceDiv, Nat.reduceMod, Int.reduceAdd, Int.reduceSub, Int.reduceNeg, Int.reduceLT, Int.reduceLE, Int.reduceEq, Int.reduceToNat, fA]
        refine hR _ (fin_of0 ?_)
        rw [e]
        simp (maxSteps := 2000000) only [enA, ↓enP, Nat.reduceAdd, Nat.reduceMul, Nat.reduceSub, Nat.reduceLT, Nat.reduceLeDiff, Nat.reduceEqDiff, Nat.reduceBEq, ↓reduceIte, reduceCtorEq, fA]
    · have q2 : (s < h.tk.length) = False := eq_false c2
      simp (maxSteps := 2000000) only [vcA, ↓vcP, ↓reduceIte, reduceCtorEq, Nat.reduceAdd, Nat.reduceMul, Nat.reduceSub, Nat.reduceLT, Nat.reduceLeDiff, Nat.reduceEqDiff, Nat.reduceBEq, Nat.reduceBNe, Nat.reduceGT, Nat.reduceDiv, Nat.reduceMod, Int.reduceAdd, Int.reduceSub, Int.reduceNeg, Int.reduceLT, Int.reduceLE, Int.reduceEq, Int.reduceToNat, fA, q2, e0]
      refine hB _ ⟨w + 1, by omega, fun j hj => ?_⟩ [] (by simp only; omega) rfl ?_
      · by_cases e : j = w
        · rw [e]; exact okW_iff.2 fun n hn => hy n (by omega)
        · exact hx j (by omega)
      · simp (maxSteps := 2000000) only [enA, ↓enP, Nat.reduceAdd, Nat.reduceMul, Nat.reduceSub, Nat.reduceLT, Nat.reduceLeDiff, Nat.reduceEqDiff, Nat.reduceBEq, ↓reduceIte, reduceCtorEq, fA]
  · have q1 : ((w : Int) < 6) = False := eq_false (by omega)
    have e : trueB h b nof = true := trueB_iff.2 fun j hj => hx j (by omega)
    simp (maxSteps := 2000000) only [vcA, ↓vcP, ↓reduceIte, reduceCtorEq, Nat.reduceAdd, Nat.reduceMul, Nat.reduceSub, Nat.reduceLT, Nat.reduceLeDiff, Nat.reduceEqDiff, Nat.reduceBEq, Nat.reduceBNe, Nat.reduceGT, Nat.reduceDiv, Nat.reduceMod, Int.reduceAdd, Int.reduceSub, Int.reduceNeg, Int.reduceLT, Int.reduceLE, Int.reduceEq, Int.reduceToNat, fA, q1]
    refine hR _ (fin_of0 ?_)
    rw [e]
    simp (maxSteps := 2000000) only [enA, ↓enP, Nat.reduceAdd, Nat.reduceMul, Nat.reduceSub, Nat.reduceLT, Nat.reduceLeDiff, Nat.reduceEqDiff, Nat.reduceBEq, ↓reduceIte, reduceCtorEq, fA]
theorem ropen_spec (h : Hs) (b : List En) (h1 : h.tk.length < 1000000) (h2 : h.lo.length < 1000000) (h3 : b.length < 1000000) : SpecF Try.prog 21 [.agg [.v (.int .i64 h.sc), .sl 2 (h.tk.map spR), .sl 1 (h.lo.map iR)], .sl 4 (b.map enR)] (.v (.int .i64 (openErr h b))) [] := by
  refine spec_go (N := 16) (rs := [.tmp 4]) (eq := eqs) rfl rfl fun_21 rfl (by kernel_rfl) (by kernel_rfl) (by simp) (by simp) (by simp) (by simp) fun R hR => ?_
  simp (maxSteps := 2000000) only [vcA, ↓vcP, ↓reduceIte, reduceCtorEq, Nat.reduceAdd, Nat.reduceMul, Nat.reduceSub, Nat.reduceLT, Nat.reduceLeDiff, Nat.reduceEqDiff, Nat.reduceBEq, Nat.reduceBNe, Nat.reduceGT, Nat.reduceDiv, Nat.reduceMod, Int.reduceAdd, Int.reduceSub, Int.reduceNeg, Int.reduceLT, Int.reduceLE, Int.reduceEq, Int.reduceToNat, fA]
  refine onF_data (rcheck_spec h b h1 h2 h3) ?_ ?_
  · simp (maxSteps := 2000000) only [okA, ↓okP, Nat.reduceAdd, Nat.reduceMul, Nat.reduceSub, Nat.reduceLT, Nat.reduceLeDiff, Nat.reduceEqDiff, Nat.reduceBEq, ↓reduceIte, reduceCtorEq]
  by_cases hc : checkErr h b ≠ 0
  · have bn : (checkErr h b != 0) = true := by simpa using hc
    have e : openErr h b = checkErr h b := by unfold openErr; rw [if_pos hc]
    simp (maxSteps := 2000000) only [vcA, ↓vcP, ↓reduceIte, reduceCtorEq, Nat.reduceAdd, Nat.reduceMul, Nat.reduceSub, Nat.reduceLT, Nat.reduceLeDiff, Nat.reduceEqDiff, Nat.reduceBEq, Nat.reduceBNe, Nat.reduceGT, Nat.reduceDiv, Nat.reduceMod, Int.reduceAdd, Int.reduceSub, Int.reduceNeg, Int.reduceLT, Int.reduceLE, Int.reduceEq, Int.reduceToNat, fA, bn]
    refine hR _ (fin_of0 ?_)
    rw [e]
    simp (maxSteps := 2000000) only [enA, ↓enP, Nat.reduceAdd, Nat.reduceMul, Nat.reduceSub, Nat.reduceLT, Nat.reduceLeDiff, Nat.reduceEqDiff, Nat.reduceBEq, ↓reduceIte, reduceCtorEq, fA]
  have hc : checkErr h b = 0 := by simpa using hc
  have bn : ((0 : Int) != 0) = false := rfl
  rw [hc]
  simp (maxSteps := 2000000) only [vcA, ↓vcP, ↓reduceIte, reduceCtorEq, Nat.reduceAdd, Nat.reduceMul, Nat.reduceSub, Nat.reduceLT, Nat.reduceLeDiff, Nat.reduceEqDiff, Nat.reduceBEq, Nat.reduceBNe, Nat.reduceGT, Nat.reduceDiv, Nat.reduceMod, Int.reduceAdd, Int.reduceSub, Int.reduceNeg, Int.reduceLT, Int.reduceLE, Int.reduceEq, Int.reduceToNat, fA, bn]
  refine onF_data (true_spec h b (check_ok hc)) ?_ ?_
  · simp (maxSteps := 2000000) only [okA, ↓okP, Nat.reduceAdd, Nat.reduceMul, Nat.reduceSub, Nat.reduceLT, Nat.reduceLeDiff, Nat.reduceEqDiff, Nat.reduceBEq, ↓reduceIte, reduceCtorEq]
  cases hT : trueB h b nof with
  | true =>
    have e : openErr h b = 0 := by unfold openErr; rw [if_neg (by rw [hc]; simp), if_pos hT]
    simp (maxSteps := 2000000) only [vcA, ↓vcP, ↓reduceIte, reduceCtorEq, Nat.reduceAdd, Nat.reduceMul, Nat.reduceSub, Nat.reduceLT, Nat.reduceLeDiff, Nat.reduceEqDiff, Nat.reduceBEq, Nat.reduceBNe, Nat.reduceGT, Nat.reduceDiv, Nat.reduceMod, Int.reduceAdd, Int.reduceSub, Int.reduceNeg, Int.reduceLT, Int.reduceLE, Int.reduceEq, Int.reduceToNat, fA]
    refine hR _ (fin_of0 ?_)
    rw [e]
    simp (maxSteps := 2000000) only [enA, ↓enP, Nat.reduceAdd, Nat.reduceMul, Nat.reduceSub, Nat.reduceLT, Nat.reduceLeDiff, Nat.reduceEqDiff, Nat.reduceBEq, ↓reduceIte, reduceCtorEq, fA]
  | false =>
    have e : openErr h b = 9 := by unfold openErr; rw [if_neg (by rw [hc]; simp), hT]; rfl
    simp (maxSteps := 2000000) only [vcA, ↓vcP, ↓reduceIte, reduceCtorEq, Nat.reduceAdd, Nat.reduceMul, Nat.reduceSub, Nat.reduceLT, Nat.reduceLeDiff, Nat.reduceEqDiff, Nat.reduceBEq, Nat.reduceBNe, Nat.reduceGT, Nat.reduceDiv, Nat.reduceMod, Int.reduceAdd, Int.reduceSub, Int.reduceNeg, Int.reduceLT, Int.reduceLE, Int.reduceEq, Int.reduceToNat, fA]
    refine hR _ (fin_of0 ?_)
    rw [e]
    simp (maxSteps := 2000000) only [enA, ↓enP, Nat.reduceAdd, Nat.reduceMul, Nat.reduceSub, Nat.reduceLT, Nat.reduceLeDiff, Nat.reduceEqDiff, Nat.reduceBEq, ↓reduceIte, reduceCtorEq, fA]
theorem rhas1_spec (h : Hs) (b : List En) (w : Int) (hb : Ok h b) (hT : trueB h b nof = true) (hw : 0 ≤ w ∧ w ≤ 5) : SpecF Try.prog 24 [.agg [.v (.int .i64 h.sc), .sl 2 (h.tk.map spR), .sl 1 (h.lo.map iR)], .sl 4 (b.map enR), .v (.int .i64 w)] (.ob 0 h.tk.length) [.row 60 2 ((hasL h b w h.tk.length).map spR) false] := by
  have hlen := hb.hs.tk
  refine spec_go (N := 27) (rs := [.tmp 6]) (eq := eqs) rfl rfl fun_24 rfl (by kernel_rfl) (by kernel_rfl) (by simp) (by simp) (by simp) (by simp) fun R hR => ?_
  simp (maxSteps := 2000000) only [vcA, ↓vcP, ↓reduceIte, reduceCtorEq, Nat.reduceAdd, Nat.reduceMul, Nat.reduceSub, Nat.reduceLT, Nat.reduceLeDiff, Nat.reduceEqDiff, Nat.reduceBEq, Nat.reduceBNe, Nat.reduceGT, Nat.reduceDiv, Nat.reduceMod, Int.reduceAdd, Int.reduceSub, Int.reduceNeg, Int.reduceLT, Int.reduceLE, Int.reduceEq, Int.reduceToNat, fA]
  refine goC_loop (α := {s : Nat // s ≤ h.tk.length}) (fun y => ⟨[(1, .sl 4 (b.map enR)), (2, .v (.int .i64 w)), (3, .ptr 8 0), (7, .ob 48 y.1), (8, .v (.int .i64 y.1))], [(8, .box 25 [.v (.int .i64 h.sc), .sl 2 (h.tk.map spR), .sl 1 (h.lo.map iR)]), (48, .row 60 2 ((hasL h b w y.1).map spR) false)]⟩) (fun y => h.tk.length - y.1) ⟨0, by omega⟩ [some 24] ?_ ?_
  · skip
    simp (maxSteps := 2000000) only [enA, ↓enP, Nat.reduceAdd, Nat.reduceMul, Nat.reduceSub, Nat.reduceLT, Nat.reduceLeDiff, Nat.reduceEqDiff, Nat.reduceBEq, ↓reduceIte, reduceCtorEq, fA]
    exact ⟨rfl, rfl⟩
  intro y B hB
  obtain ⟨s, hs⟩ := y
  have hl := hasL_len h b w s
  have hm : (hasL h b w s).length + 1 ≤ maxLen := by rw [hl]; simp only [maxLen]; omega
  by_cases c2 : s < h.tk.length
  · have q2 : (s < h.tk.length) = True := eq_true c2
    have e3 : IntKind.i64.wrap ((s : Int) + 1) = ((s + 1 : Nat) : Int) := wrap_id (by omega) (by omega)
    have hkn := know_spec h b w s hb.r hb.kinds (by omega)
    rw [knI_true (true_high hT hw c2)] at hkn
    unfold knA at hkn
    simp (maxSteps := 2000000) only [vcA, ↓vcP, ↓reduceIte, reduceCtorEq, Nat.reduceAdd, Nat.reduceMul, Nat.reduceSub, Nat.reduceLT, Nat.reduceLeDiff, Nat.reduceEqDiff, Nat.reduceBEq, Nat.reduceBNe, Nat.reduceGT, Nat.reduceDiv, Nat.reduceMod, Int.reduceAdd, Int.reduceSub, Int.reduceNeg, Int.reduceLT, Int.reduceLE, Int.reduceEq, Int.reduceToNat, fA, q2]
    refine onF_data hkn ?_ ?_
    · simp (maxSteps := 2000000) only [okA, ↓okP, Nat.reduceAdd, Nat.reduceMul, Nat.reduceSub, Nat.reduceLT, Nat.reduceLeDiff, Nat.reduceEqDiff, Nat.reduceBEq, ↓reduceIte, reduceCtorEq]
    simp (maxSteps := 2000000) only [vcA, ↓vcP, ↓reduceIte, reduceCtorEq, Nat.reduceAdd, Nat.reduceMul, Nat.reduceSub, Nat.reduceLT, Nat.reduceLeDiff, Nat.reduceEqDiff, Nat.reduceBEq, Nat.reduceBNe, Nat.reduceGT, Nat.reduceDiv, Nat.reduceMod, Int.reduceAdd, Int.reduceSub, Int.reduceNeg, Int.reduceLT, Int.reduceLE, Int.reduceEq, Int.reduceToNat, fA, hl]
    refine ⟨⟨by omega, by simp only [maxLen]; omega⟩, fun _ => ?_⟩
    refine hB _ ⟨s + 1, by omega⟩ [some 184] (by simp only; omega) rfl ?_
    rw [hasL_succ]
    skip
    simp (maxSteps := 2000000) only [enA, ↓enP, Nat.reduceAdd, Nat.reduceMul, Nat.reduceSub, Nat.reduceLT, Nat.reduceLeDiff, Nat.reduceEqDiff, Nat.reduceBEq, ↓reduceIte, reduceCtorEq, fA, e3, hl]
    try simp [spR]
  · have q2 : (s < h.tk.length) = False := eq_false c2
    have : s = h.tk.length := by omega
    subst this
    simp (maxSteps := 2000000) only [vcA, ↓vcP, ↓reduceIte, reduceCtorEq, Nat.reduceAdd, Nat.reduceMul, Nat.reduceSub, Nat.reduceLT, Nat.reduceLeDiff, Nat.reduceEqDiff, Nat.reduceBEq, Nat.reduceBNe, Nat.reduceGT, Nat.reduceDiv, Nat.reduceMod, Int.reduceAdd, Int.reduceSub, Int.reduceNeg, Int.reduceLT, Int.reduceLE, Int.reduceEq, Int.reduceToNat, fA, q2]
    refine hR _ (fin_of1 [some 48] ?_)
    simp (maxSteps := 2000000) only [enA, ↓enP, Nat.reduceAdd, Nat.reduceMul, Nat.reduceSub, Nat.reduceLT, Nat.reduceLeDiff, Nat.reduceEqDiff, Nat.reduceBEq, ↓reduceIte, reduceCtorEq, fA]
theorem rhas_spec (h : Hs) (b : List En) (w : Int) (hb : Ok h b) (hT : trueB h b nof = true) (hw : 0 ≤ w ∧ w ≤ 5) : SpecF Try.prog 24 [.agg [.v (.int .i64 h.sc), .sl 2 (h.tk.map spR), .sl 1 (h.lo.map iR)], .sl 4 (b.map enR), .v (.int .i64 w)] (.sl 2 ((hasL h b w h.tk.length).map spR)) [] := (rhas1_spec h b w hb hT hw).frz
theorem add_spec (s t : Sp) (h1 : -1000000000 ≤ s.1 ∧ s.1 ≤ 1000000000) (h2 : -1000000000 ≤ s.2 ∧ s.2 ≤ 1000000000) (h3 : -1000000000 ≤ t.1 ∧ t.1 ≤ 1000000000) (h4 : -1000000000 ≤ t.2 ∧ t.2 ≤ 1000000000) : SpecF Try.prog 90 [.agg [.v (.int .i64 s.1), .v (.int .i64 s.2)], .agg [.v (.int .i64 t.1), .v (.int .i64 t.2)]] (.agg [.v (.int .i64 (s.1 + t.1)), .v (.int .i64 (s.2 + t.2))]) [] := by
  have e1 : IntKind.i64.wrap (s.1 + t.1) = s.1 + t.1 := wrap_id (by omega) (by omega)
  have e2 : IntKind.i64.wrap (s.2 + t.2) = s.2 + t.2 := wrap_id (by omega) (by omega)
  refine spec_go (N := 16) (rs := [.cell 4 60]) (eq := eqs) rfl rfl fun_90 rfl (by kernel_rfl) (by kernel_rfl) (by simp) (by simp) (by simp) (by simp) fun R hR => ?_
  simp (maxSteps := 2000000) only [vcA, ↓vcP, ↓reduceIte, reduceCtorEq, Nat.reduceAdd, Nat.reduceMul, Nat.reduceSub, Nat.reduceLT, Nat.reduceLeDiff, Nat.reduceEqDiff, Nat.reduceBEq, Nat.reduceBNe, Nat.reduceGT, Nat.reduceDiv, Nat.reduceMod, Int.reduceAdd, Int.reduceSub, Int.reduceNeg, Int.reduceLT, Int.reduceLE, Int.reduceEq, Int.reduceToNat, fA, e1, e2]
  refine hR _ (fin_of0 ?_)
  simp (maxSteps := 2000000) only [enA, ↓enP, Nat.reduceAdd, Nat.reduceMul, Nat.reduceSub, Nat.reduceLT, Nat.reduceLeDiff, Nat.reduceEqDiff, Nat.reduceBEq, ↓reduceIte, reduceCtorEq, fA]
set_option maxHeartbeats 4000000 in
theorem rlies_spec (h : Hs) (b : List En) (s : Int) (hb : Ok h b) (hT : trueB h b nof = true) (hs : 0 ≤ s ∧ s < h.tk.length) : SpecF Try.prog 46 [.agg [.v (.int .i64 h.sc), .sl 2 (h.tk.map spR), .sl 1 (h.lo.map iR)], .sl 4 (b.map enR), .v (.int .i64 s)]
    (.tup [.agg [.v (.int .i64 (homeN h b s 6).1), .v (.int .i64 (homeN h b s 6).2)], .agg [.v (.int .i64 (infansN h b s 6).1), .v (.int .i64 (infansN h b s 6).2)], .agg [.v (.int .i64 (lostN h b s 6).1), .v (.int .i64 (lostN h b s 6).2)]]) [] := by
  have hlen := hb.hs.tk
  refine spec_go (N := 41) (rs := [.cell 6 60, .cell 7 60, .cell 8 60]) (eq := eqs) rfl rfl fun_46 rfl (by kernel_rfl) (by kernel_rfl) (by simp) (by simp) (by simp) (by simp) fun R hR => ?_
  simp (maxSteps := 2000000) only [vcA, ↓vcP, ↓reduceIte, reduceCtorEq, Nat.reduceAdd, Nat.reduceMul, Nat.reduceSub, Nat.reduceLT, Nat.reduceLeDiff, Nat.reduceEqDiff, Nat.reduceBEq, Nat.reduceBNe, Nat.reduceGT, Nat.reduceDiv, Nat.reduceMod, Int.reduceAdd, Int.reduceSub, Int.reduceNeg, Int.reduceLT, Int.reduceLE, Int.reduceEq, Int.reduceToNat, fA]
  refine goC_loop (α := {w : Nat // w ≤ 6}) (fun x => ⟨[(1, .sl 4 (b.map enR)), (2, .v (.int .i64 s)), (3, .ptr 8 0), (6, .ptr 16 0), (7, .ptr 24 0), (8, .ptr 32 0), (9, .ptr 64 0), (10, .ptr 72 0), (11, .ptr 80 0), (12, .v (.int .i64 x.1))], [(8, .box 25 [.v (.int .i64 h.sc), .sl 2 (h.tk.map spR), .sl 1 (h.lo.map iR)]), (16, .box 60 [.v (.int .i64 0), .v (.int .i64 0)]), (24, .box 60 [.v (.int .i64 0), .v (.int .i64 0)]), (32, .box 60 [.v (.int .i64 0), .v (.int .i64 0)]), (64, .box 60 [.v (.int .i64 (homeN h b s x.1).1), .v (.int .i64 (homeN h b s x.1).2)]), (72, .box 60 [.v (.int .i64 (infansN h b s x.1).1), .v (.int .i64 (infansN h b s x.1).2)]), (80, .box 60 [.v (.int .i64 (lostN h b s x.1).1), .v (.int .i64 (lostN h b s x.1).2)])]⟩) (fun x => 6 - x.1) ⟨0, by omega⟩ [] ?_ ?_
  · simp (maxSteps := 2000000) only [enA, ↓enP, Nat.reduceAdd, Nat.reduceMul, Nat.reduceSub, Nat.reduceLT, Nat.reduceLeDiff, Nat.reduceEqDiff, Nat.reduceBEq, ↓reduceIte, reduceCtorEq, fA]
    exact ⟨rfl, ⟨rfl, rfl⟩, ⟨rfl, rfl⟩, rfl, rfl⟩
  intro x B hB
  obtain ⟨w, hw6⟩ := x
  by_cases c1 : w < 6
  · have q1 : ((w : Int) < 6) = True := eq_true (by omega)
    have e0 : IntKind.i64.wrap ((w : Int) + 1) = ((w + 1 : Nat) : Int) := wrap_id (by omega) (by omega)
    have b1 := homeN_bd hb hs w
    have b2 := infansN_bd hb hs w
    have b3 := lostN_bd hb hs w
    have t1 : homeN h b s (w + 1) = ((homeN h b s w).1 + (has (acc h b w s nof)).1, (homeN h b s w).2 + (has (acc h b w s nof)).2) := rfl
    have t2 : infansN h b s (w + 1) = ((infansN h b s w).1 + (acc h b w s nof).f1, (infansN h b s w).2 + min (acc h b w s nof).f2 ((acc h b w s nof).o2 - (acc h b w s nof).b1)) := rfl
    have t3 : lostN h b s (w + 1) = ((lostN h b s w).1 + 0, (lostN h b s w).2 + min (loss (acc h b w s nof) (acc h b w s nof).o2) (high (acc h b w s nof))) := rfl
    generalize homeN h b s w = X1 at b1 t1 ⊢
    generalize infansN h b s w = X2 at b2 t2 ⊢
    generalize lostN h b s w = X3 at b3 t3 ⊢
    have hbd := acc_bd hb (w := w) hs nof
    have hkn := know_spec h b w s hb.r hb.kinds hs
    have hth := true_high (w := w) (s := s.toNat) hT (by omega) (by omega)
    rw [show ((s.toNat : Nat) : Int) = s by omega] at hth
    rw [knI_true hth] at hkn
    unfold knA at hkn
    generalize acc h b w s nof = a at t1 t2 t3 hbd hkn hth
    have ghb := has_bd hbd
    have ghi := high_bd hbd
    obtain ⟨d1, d2, d3, d4⟩ := hbd
    have gl := loss_bd (a := a) ⟨d1, d2, d3, d4⟩ (n := a.o2) (by omega)
    simp (maxSteps := 2000000) only [vcA, ↓vcP, ↓reduceIte, reduceCtorEq, Nat.reduceAdd, Nat.reduceMul, Nat.reduceSub, Nat.reduceLT, Nat.reduceLeDiff, Nat.reduceEqDiff, Nat.reduceBEq, Nat.reduceBNe, Nat.reduceGT, Nat.reduceDiv, Nat.reduceMod, Int.reduceAdd, Int.reduceSub, Int.reduceNeg, Int.reduceLT, Int.reduceLE, Int.reduceEq, Int.reduceToNat, fA, q1]
    refine onF_data hkn ?_ ?_
    · simp (maxSteps := 2000000) only [okA, ↓okP, Nat.reduceAdd, Nat.reduceMul, Nat.reduceSub, Nat.reduceLT, Nat.reduceLeDiff, Nat.reduceEqDiff, Nat.reduceBEq, ↓reduceIte, reduceCtorEq]
    simp (maxSteps := 2000000) only [vcA, ↓vcP, ↓reduceIte, reduceCtorEq, Nat.reduceAdd, Nat.reduceMul, Nat.reduceSub, Nat.reduceLT, Nat.reduceLeDiff, Nat.reduceEqDiff, Nat.reduceBEq, Nat.reduceBNe, Nat.reduceGT, Nat.reduceDiv, Nat.reduceMod, Int.reduceAdd, Int.reduceSub, Int.reduceNeg, Int.reduceLT, Int.reduceLE, Int.reduceEq, Int.reduceToNat, fA]
    refine onF_data (add_spec X1 (has a) (by omega) (by omega) (by omega) (by omega)) ?_ ?_
    · simp (maxSteps := 2000000) only [okA, ↓okP, Nat.reduceAdd, Nat.reduceMul, Nat.reduceSub, Nat.reduceLT, Nat.reduceLeDiff, Nat.reduceEqDiff, Nat.reduceBEq, ↓reduceIte, reduceCtorEq]
    simp (maxSteps := 2000000) only [vcA, ↓vcP, ↓reduceIte, reduceCtorEq, Nat.reduceAdd, Nat.reduceMul, Nat.reduceSub, Nat.reduceLT, Nat.reduceLeDiff, Nat.reduceEqDiff, Nat.reduceBEq, Nat.reduceBNe, Nat.reduceGT, Nat.reduceDiv, Nat.reduceMod, Int.reduceAdd, Int.reduceSub, Int.reduceNeg, Int.reduceLT, Int.reduceLE, Int.reduceEq, Int.reduceToNat, fA]
    repeat (first | refine ⟨by kernel_rfl, ?_⟩ | refine ⟨⟨by kernel_rfl, by kernel_rfl⟩, ?_⟩ | refine ⟨⟨by kernel_rfl, by kernel_rfl, by kernel_rfl⟩, ?_⟩ | refine ⟨⟨by kernel_rfl, by kernel_rfl, by kernel_rfl, by kernel_rfl⟩, ?_⟩ | refine ⟨⟨by kernel_rfl, by kernel_rfl, by kernel_rfl, by kernel_rfl, by kernel_rfl⟩, ?_⟩ | refine ⟨⟨by kernel_rfl, by kernel_rfl, by kernel_rfl, by kernel_rfl, by kernel_rfl, by kernel_rfl⟩, ?_⟩ | refine ⟨⟨by kernel_rfl, by kernel_rfl, by kernel_rfl, by kernel_rfl, by kernel_rfl, by kernel_rfl, by kernel_rfl⟩, ?_⟩ | refine ⟨⟨by kernel_rfl, by kernel_rfl, by kernel_rfl, by kernel_rfl, by kernel_rfl, by kernel_rfl, by kernel_rfl, by kernel_rfl⟩, ?_⟩ | refine ⟨⟨by kernel_rfl, by kernel_rfl, by kernel_rfl, by kernel_rfl, by kernel_rfl, by kernel_rfl, by kernel_rfl, by kernel_rfl, by kernel_rfl⟩, ?_⟩ | refine ⟨⟨by kernel_rfl, by kernel_rfl, by kernel_rfl, by kernel_rfl, by kernel_rfl, by kernel_rfl, by kernel_rfl, by kernel_rfl, by kernel_rfl, by kernel_rfl⟩, ?_⟩ | refine ⟨⟨by kernel_rfl, by kernel_rfl, by kernel_rfl, by kernel_rfl, by kernel_rfl, by kernel_rfl, by kernel_rfl, by kernel_rfl, by kernel_rfl, by kernel_rfl, by kernel_rfl⟩, ?_⟩ | refine ⟨⟨by kernel_rfl, by kernel_rfl, by kernel_rfl, by kernel_rfl, by kernel_rfl, by kernel_rfl, by kernel_rfl, by kernel_rfl, by kernel_rfl, by kernel_rfl, by kernel_rfl, by kernel_rfl⟩, ?_⟩ | refine ⟨⟨by kernel_rfl, by kernel_rfl, by kernel_rfl, by kernel_rfl, by kernel_rfl, by kernel_rfl, by kernel_rfl, by kernel_rfl, by kernel_rfl, by kernel_rfl, by kernel_rfl, by kernel_rfl, by kernel_rfl⟩, ?_⟩)
    refine onF_data (add_spec X2 (a.f1, min a.f2 (a.o2 - a.b1)) (by omega) (by omega) (by simp only; omega) (by simp only; omega)) ?_ ?_
    · simp (maxSteps := 2000000) only [okA, ↓okP, Nat.reduceAdd, Nat.reduceMul, Nat.reduceSub, Nat.reduceLT, Nat.reduceLeDiff, Nat.reduceEqDiff, Nat.reduceBEq, ↓reduceIte, reduceCtorEq]
    simp (maxSteps := 2000000) only [vcA, ↓vcP, ↓reduceIte, reduceCtorEq, Nat.reduceAdd, Nat.reduceMul, Nat.reduceSub, Nat.reduceLT, Nat.reduceLeDiff, Nat.reduceEqDiff, Nat.reduceBEq, Nat.reduceBNe, Nat.reduceGT, Nat.reduceDiv, Nat.reduceMod, Int.reduceAdd, Int.reduceSub, Int.reduceNeg, Int.reduceLT, Int.reduceLE, Int.reduceEq, Int.reduceToNat, fA]
    repeat (first | refine ⟨by kernel_rfl, ?_⟩ | refine ⟨⟨by kernel_rfl, by kernel_rfl⟩, ?_⟩ | refine ⟨⟨by kernel_rfl, by kernel_rfl, by kernel_rfl⟩, ?_⟩ | refine ⟨⟨by kernel_rfl, by kernel_rfl, by kernel_rfl, by kernel_rfl⟩, ?_⟩ | refine ⟨⟨by kernel_rfl, by kernel_rfl, by kernel_rfl, by kernel_rfl, by kernel_rfl⟩, ?_⟩ | refine ⟨⟨by kernel_rfl, by kernel_rfl, by kernel_rfl, by kernel_rfl, by kernel_rfl, by kernel_rfl⟩, ?_⟩ | refine ⟨⟨by kernel_rfl, by kernel_rfl, by kernel_rfl, by kernel_rfl, by kernel_rfl, by kernel_rfl, by kernel_rfl⟩, ?_⟩ | refine ⟨⟨by kernel_rfl, by kernel_rfl, by kernel_rfl, by kernel_rfl, by kernel_rfl, by kernel_rfl, by kernel_rfl, by kernel_rfl⟩, ?_⟩ | refine ⟨⟨by kernel_rfl, by kernel_rfl, by kernel_rfl, by kernel_rfl, by kernel_rfl, by kernel_rfl, by kernel_rfl, by kernel_rfl, by kernel_rfl⟩, ?_⟩ | refine ⟨⟨by kernel_rfl, by kernel_rfl, by kernel_rfl, by kernel_rfl, by kernel_rfl, by kernel_rfl, by kernel_rfl, by kernel_rfl, by kernel_rfl, by kernel_rfl⟩, ?_⟩ | refine ⟨⟨by kernel_rfl, by kernel_rfl, by kernel_rfl, by kernel_rfl, by kernel_rfl, by kernel_rfl, by kernel_rfl, by kernel_rfl, by kernel_rfl, by kernel_rfl, by kernel_rfl⟩, ?_⟩ | refine ⟨⟨by kernel_rfl, by kernel_rfl, by kernel_rfl, by kernel_rfl, by kernel_rfl, by kernel_rfl, by kernel_rfl, by kernel_rfl, by kernel_rfl, by kernel_rfl, by kernel_rfl, by kernel_rfl⟩, ?_⟩ | refine ⟨⟨by kernel_rfl, by kernel_rfl, by kernel_rfl, by kernel_rfl, by kernel_rfl, by kernel_rfl, by kernel_rfl, by kernel_rfl, by kernel_rfl, by kernel_rfl, by kernel_rfl, by kernel_rfl, by kernel_rfl⟩, ?_⟩)
    refine onF_data (add_spec X3 (0, min (loss a a.o2) (high a)) (by omega) (by omega) (by simp only; omega) (by simp only; omega)) ?_ ?_
    · simp (maxSteps := 2000000) only [okA, ↓okP, Nat.reduceAdd, Nat.reduceMul, Nat.reduceSub, Nat.reduceLT, Nat.reduceLeDiff, Nat.reduceEqDiff, Nat.reduceBEq, ↓reduceIte, reduceCtorEq]
    simp (maxSteps := 2000000) only [vcA, ↓vcP, ↓reduceIte, reduceCtorEq, Nat.reduceAdd, Nat.reduceMul, Nat.reduceSub, Nat.reduceLT, Nat.reduceLeDiff, Nat.reduceEqDiff, Nat.reduceBEq, Nat.reduceBNe, Nat.reduceGT, Nat.reduceDiv, Nat.reduceMod, Int.reduceAdd, Int.reduceSub, Int.reduceNeg, Int.reduceLT, Int.reduceLE, Int.reduceEq, Int.reduceToNat, fA, e0]
    repeat (first | refine ⟨by kernel_rfl, ?_⟩ | refine ⟨⟨by kernel_rfl, by kernel_rfl⟩, ?_⟩ | refine ⟨⟨by kernel_rfl, by kernel_rfl, by kernel_rfl⟩, ?_⟩ | refine ⟨⟨by kernel_rfl, by kernel_rfl, by kernel_rfl, by kernel_rfl⟩, ?_⟩ | refine ⟨⟨by kernel_rfl, by kernel_rfl, by kernel_rfl, by kernel_rfl, by kernel_rfl⟩, ?_⟩ | refine ⟨⟨by kernel_rfl, by kernel_rfl, by kernel_rfl, by kernel_rfl, by kernel_rfl, by kernel_rfl⟩, ?_⟩ | refine ⟨⟨by kernel_rfl, by kernel_rfl, by kernel_rfl, by kernel_rfl, by kernel_rfl, by kernel_rfl, by kernel_rfl⟩, ?_⟩ | refine ⟨⟨by kernel_rfl, by kernel_rfl, by kernel_rfl, by kernel_rfl, by kernel_rfl, by kernel_rfl, by kernel_rfl, by kernel_rfl⟩, ?_⟩ | refine ⟨⟨by kernel_rfl, by kernel_rfl, by kernel_rfl, by kernel_rfl, by kernel_rfl, by kernel_rfl, by kernel_rfl, by kernel_rfl, by kernel_rfl⟩, ?_⟩ | refine ⟨⟨by kernel_rfl, by kernel_rfl, by kernel_rfl, by kernel_rfl, by kernel_rfl, by kernel_rfl, by kernel_rfl, by kernel_rfl, by kernel_rfl, by kernel_rfl⟩, ?_⟩ | refine ⟨⟨by kernel_rfl, by kernel_rfl, by kernel_rfl, by kernel_rfl, by kernel_rfl, by kernel_rfl, by kernel_rfl, by kernel_rfl, by kernel_rfl, by kernel_rfl, by kernel_rfl⟩, ?_⟩ | refine ⟨⟨by kernel_rfl, by kernel_rfl, by kernel_rfl, by kernel_rfl, by kernel_rfl, by kernel_rfl, by kernel_rfl, by kernel_rfl, by kernel_rfl, by kernel_rfl, by kernel_rfl, by kernel_rfl⟩, ?_⟩ | refine ⟨⟨by kernel_rfl, by kernel_rfl, by kernel_rfl, by kernel_rfl, by kernel_rfl, by kernel_rfl, by kernel_rfl, by kernel_rfl, by kernel_rfl, by kernel_rfl, by kernel_rfl, by kernel_rfl, by kernel_rfl⟩, ?_⟩)
    refine hB _ ⟨w + 1, by omega⟩ [] (by simp only; omega) rfl ?_
    rw [t1, t2, t3]
    simp (maxSteps := 2000000) only [enA, ↓enP, Nat.reduceAdd, Nat.reduceMul, Nat.reduceSub, Nat.reduceLT, Nat.reduceLeDiff, Nat.reduceEqDiff, Nat.reduceBEq, ↓reduceIte, reduceCtorEq, fA]
  · have q1 : ((w : Int) < 6) = False := eq_false (by omega)
    have : w = 6 := by omega
    subst this
    simp (maxSteps := 2000000) only [vcA, ↓vcP, ↓reduceIte, reduceCtorEq, Nat.reduceAdd, Nat.reduceMul, Nat.reduceSub, Nat.reduceLT, Nat.reduceLeDiff, Nat.reduceEqDiff, Nat.reduceBEq, Nat.reduceBNe, Nat.reduceGT, Nat.reduceDiv, Nat.reduceMod, Int.reduceAdd, Int.reduceSub, Int.reduceNeg, Int.reduceLT, Int.reduceLE, Int.reduceEq, Int.reduceToNat, fA, q1]
    repeat (first | refine ⟨by kernel_rfl, ?_⟩ | refine ⟨⟨by kernel_rfl, by kernel_rfl⟩, ?_⟩ | refine ⟨⟨by kernel_rfl, by kernel_rfl, by kernel_rfl⟩, ?_⟩ | refine ⟨⟨by kernel_rfl, by kernel_rfl, by kernel_rfl, by kernel_rfl⟩, ?_⟩ | refine ⟨⟨by kernel_rfl, by kernel_rfl, by kernel_rfl, by kernel_rfl, by kernel_rfl⟩, ?_⟩ | refine ⟨⟨by kernel_rfl, by kernel_rfl, by kernel_rfl, by kernel_rfl, by kernel_rfl, by kernel_rfl⟩, ?_⟩ | refine ⟨⟨by kernel_rfl, by kernel_rfl, by kernel_rfl, by kernel_rfl, by kernel_rfl, by kernel_rfl, by kernel_rfl⟩, ?_⟩ | refine ⟨⟨by kernel_rfl, by kernel_rfl, by kernel_rfl, by kernel_rfl, by kernel_rfl, by kernel_rfl, by kernel_rfl, by kernel_rfl⟩, ?_⟩ | refine ⟨⟨by kernel_rfl, by kernel_rfl, by kernel_rfl, by kernel_rfl, by kernel_rfl, by kernel_rfl, by kernel_rfl, by kernel_rfl, by kernel_rfl⟩, ?_⟩ | refine ⟨⟨by kernel_rfl, by kernel_rfl, by kernel_rfl, by kernel_rfl, by kernel_rfl, by kernel_rfl, by kernel_rfl, by kernel_rfl, by kernel_rfl, by kernel_rfl⟩, ?_⟩ | refine ⟨⟨by kernel_rfl, by kernel_rfl, by kernel_rfl, by kernel_rfl, by kernel_rfl, by kernel_rfl, by kernel_rfl, by kernel_rfl, by kernel_rfl, by kernel_rfl, by kernel_rfl⟩, ?_⟩ | refine ⟨⟨by kernel_rfl, by kernel_rfl, by kernel_rfl, by kernel_rfl, by kernel_rfl, by kernel_rfl, by kernel_rfl, by kernel_rfl, by kernel_rfl, by kernel_rfl, by kernel_rfl, by kernel_rfl⟩, ?_⟩ | refine ⟨⟨by kernel_rfl, by kernel_rfl, by kernel_rfl, by kernel_rfl, by kernel_rfl, by kernel_rfl, by kernel_rfl, by kernel_rfl, by kernel_rfl, by kernel_rfl, by kernel_rfl, by kernel_rfl, by kernel_rfl⟩, ?_⟩)
    refine hR _ (fin_of0 ?_)
    simp (maxSteps := 2000000) only [enA, ↓enP, Nat.reduceAdd, Nat.reduceMul, Nat.reduceSub, Nat.reduceLT, Nat.reduceLeDiff, Nat.reduceEqDiff, Nat.reduceBEq, ↓reduceIte, reduceCtorEq, fA]
set_option maxHeartbeats 4000000 in
theorem rweigh_spec (h : Hs) (b : List En) (s : Int) (hb : Ok h b) (hT : trueB h b nof = true) (hs : 0 ≤ s ∧ s < h.tk.length) : SpecF Try.prog 47 [.agg [.v (.int .i64 h.sc), .sl 2 (h.tk.map spR), .sl 1 (h.lo.map iR)], .sl 4 (b.map enR), .v (.int .i64 s)]
    (.tup [.v (.int .i64 (weighN h b s 6).1), .v (.int .i64 (weighN h b s 6).2)]) [] := by
  have hlen := hb.hs.tk
  refine spec_go (N := 37) (rs := [.tmp 6, .tmp 7]) (eq := eqs) rfl rfl fun_47 rfl (by kernel_rfl) (by kernel_rfl) (by simp) (by simp) (by simp) (by simp) fun R hR => ?_
  simp (maxSteps := 2000000) only [vcA, ↓vcP, ↓reduceIte, reduceCtorEq, Nat.reduceAdd, Nat.reduceMul, Nat.reduceSub, Nat.reduceLT, Nat.reduceLeDiff, Nat.reduceEqDiff, Nat.reduceBEq, Nat.reduceBNe, Nat.reduceGT, Nat.reduceDiv, Nat.reduceMod, Int.reduceAdd, Int.reduceSub, Int.reduceNeg, Int.reduceLT, Int.reduceLE, Int.reduceEq, Int.reduceToNat, fA]
  refine goC_loop (α := {w : Nat // w ≤ 6}) (fun x => ⟨[(1, .sl 4 (b.map enR)), (2, .v (.int .i64 s)), (3, .ptr 8 0), (8, .v (.int .i64 (weighN h b s x.1).1)), (9, .v (.int .i64 (weighN h b s x.1).2)), (10, .v (.int .i64 x.1))], [(8, .box 25 [.v (.int .i64 h.sc), .sl 2 (h.tk.map spR), .sl 1 (h.lo.map iR)])]⟩) (fun x => 6 - x.1) ⟨0, by omega⟩ [] ?_ ?_
  · simp (maxSteps := 2000000) only [enA, ↓enP, Nat.reduceAdd, Nat.reduceMul, Nat.reduceSub, Nat.reduceLT, Nat.reduceLeDiff, Nat.reduceEqDiff, Nat.reduceBEq, ↓reduceIte, reduceCtorEq, fA]
    exact ⟨rfl, rfl, rfl⟩
  intro x B hB
  obtain ⟨w, hw6⟩ := x
  by_cases c1 : w < 6
  · have q1 : ((w : Int) < 6) = True := eq_true (by omega)
    have e0 : IntKind.i64.wrap ((w : Int) + 1) = ((w + 1 : Nat) : Int) := wrap_id (by omega) (by omega)
    have t1 : weighN h b s (w + 1) = if (has (acc h b w s nof)).2 - (has (acc h b w s nof)).1 > (weighN h b s w).2 then ((w : Int), (has (acc h b w s nof)).2 - (has (acc h b w s nof)).1) else weighN h b s w := rfl
    generalize weighN h b s w = X1 at t1 ⊢
    have hbd := acc_bd hb (w := w) hs nof
    have hkn := know_spec h b w s hb.r hb.kinds hs
    have hth := true_high (w := w) (s := s.toNat) hT (by omega) (by omega)
    rw [show ((s.toNat : Nat) : Int) = s by omega] at hth
    rw [knI_true hth] at hkn
    unfold knA at hkn
    generalize acc h b w s nof = a at t1 hbd hkn hth
    have ghb := has_bd hbd
    have w1 : IntKind.i64.wrap ((has a).2 - (has a).1) = (has a).2 - (has a).1 := wrap_id (by omega) (by omega)
    simp (maxSteps := 2000000) only [vcA, ↓vcP, ↓reduceIte, reduceCtorEq, Nat.reduceAdd, Nat.reduceMul, Nat.reduceSub, Nat.reduceLT, Nat.reduceLeDiff, Nat.reduceEqDiff, Nat.reduceBEq, Nat.reduceBNe, Nat.reduceGT, Nat.reduceDiv, Nat.reduceMod, Int.reduceAdd, Int.reduceSub, Int.reduceNeg, Int.reduceLT, Int.reduceLE, Int.reduceEq, Int.reduceToNat, fA, q1]
    refine onF_data hkn ?_ ?_
    · simp (maxSteps := 2000000) only [okA, ↓okP, Nat.reduceAdd, Nat.reduceMul, Nat.reduceSub, Nat.reduceLT, Nat.reduceLeDiff, Nat.reduceEqDiff, Nat.reduceBEq, ↓reduceIte, reduceCtorEq]
    simp (maxSteps := 2000000) only [vcA, ↓vcP, ↓reduceIte, reduceCtorEq, Nat.reduceAdd, Nat.reduceMul, Nat.reduceSub, Nat.reduceLT, Nat.reduceLeDiff, Nat.reduceEqDiff, Nat.reduceBEq, Nat.reduceBNe, Nat.reduceGT, Nat.reduceDiv, Nat.reduceMod, Int.reduceAdd, Int.reduceSub, Int.reduceNeg, Int.reduceLT, Int.reduceLE, Int.reduceEq, Int.reduceToNat, fA, w1]
    refine ⟨fun c => ?_, fun c => ?_⟩
    · repeat (first | refine ⟨by kernel_rfl, ?_⟩ | refine ⟨⟨by kernel_rfl, by kernel_rfl⟩, ?_⟩ | refine ⟨⟨by kernel_rfl, by kernel_rfl, by kernel_rfl⟩, ?_⟩ | refine ⟨⟨by kernel_rfl, by kernel_rfl, by kernel_rfl, by kernel_rfl⟩, ?_⟩ | refine ⟨⟨by kernel_rfl, by kernel_rfl, by kernel_rfl, by kernel_rfl, by kernel_rfl⟩, ?_⟩ | refine ⟨⟨by kernel_rfl, by kernel_rfl, by kernel_rfl, by kernel_rfl, by kernel_rfl, by kernel_rfl⟩, ?_⟩ | refine ⟨⟨by kernel_rfl, by kernel_rfl, by kernel_rfl, by kernel_rfl, by kernel_rfl, by kernel_rfl, by kernel_rfl⟩, ?_⟩ | refine ⟨⟨by kernel_rfl, by kernel_rfl, by kernel_rfl, by kernel_rfl, by kernel_rfl, by kernel_rfl, by kernel_rfl, by kernel_rfl⟩, ?_⟩ | refine ⟨⟨by kernel_rfl, by kernel_rfl, by kernel_rfl, by kernel_rfl, by kernel_rfl, by kernel_rfl, by kernel_rfl, by kernel_rfl, by kernel_rfl⟩, ?_⟩ | refine ⟨⟨by kernel_rfl, by kernel_rfl, by kernel_rfl, by kernel_rfl, by kernel_rfl, by kernel_rfl, by kernel_rfl, by kernel_rfl, by kernel_rfl, by kernel_rfl⟩, ?_⟩ | refine ⟨⟨by kernel_rfl, by kernel_rfl, by kernel_rfl, by kernel_rfl, by kernel_rfl, by kernel_rfl, by kernel_rfl, by kernel_rfl, by kernel_rfl, by kernel_rfl, by kernel_rfl⟩, ?_⟩ | refine ⟨⟨by kernel_rfl, by kernel_rfl, by kernel_rfl, by kernel_rfl, by kernel_rfl, by kernel_rfl, by kernel_rfl, by kernel_rfl, by kernel_rfl, by kernel_rfl, by kernel_rfl, by kernel_rfl⟩, ?_⟩ | refine ⟨⟨by kernel_rfl, by kernel_rfl, by kernel_rfl, by kernel_rfl, by kernel_rfl, by kernel_rfl, by kernel_rfl, by kernel_rfl, by kernel_rfl, by kernel_rfl, by kernel_rfl, by kernel_rfl, by kernel_rfl⟩, ?_⟩)
      rw [if_pos c] at t1
      refine hB _ ⟨w + 1, by omega⟩ [] (by simp only; omega) rfl ?_
      rw [t1]
      simp (maxSteps := 2000000) only [enA, ↓enP, Nat.reduceAdd, Nat.reduceMul, Nat.reduceSub, Nat.reduceLT, Nat.reduceLeDiff, Nat.reduceEqDiff, Nat.reduceBEq, ↓reduceIte, reduceCtorEq, fA, e0]
    · rw [if_neg (by omega)] at t1
      refine hB _ ⟨w + 1, by omega⟩ [] (by simp only; omega) rfl ?_
      rw [t1]
      simp (maxSteps := 2000000) only [enA, ↓enP, Nat.reduceAdd, Nat.reduceMul, Nat.reduceSub, Nat.reduceLT, Nat.reduceLeDiff, Nat.reduceEqDiff, Nat.reduceBEq, ↓reduceIte, reduceCtorEq, fA, e0]
  · have q1 : ((w : Int) < 6) = False := eq_false (by omega)
    have : w = 6 := by omega
    subst this
    simp (maxSteps := 2000000) only [vcA, ↓vcP, ↓reduceIte, reduceCtorEq, Nat.reduceAdd, Nat.reduceMul, Nat.reduceSub, Nat.reduceLT, Nat.reduceLeDiff, Nat.reduceEqDiff, Nat.reduceBEq, Nat.reduceBNe, Nat.reduceGT, Nat.reduceDiv, Nat.reduceMod, Int.reduceAdd, Int.reduceSub, Int.reduceNeg, Int.reduceLT, Int.reduceLE, Int.reduceEq, Int.reduceToNat, fA, q1]
    refine hR _ (fin_of0 ?_)
    simp (maxSteps := 2000000) only [enA, ↓enP, Nat.reduceAdd, Nat.reduceMul, Nat.reduceSub, Nat.reduceLT, Nat.reduceLeDiff, Nat.reduceEqDiff, Nat.reduceBEq, ↓reduceIte, reduceCtorEq, fA]
end Go.Proofs.Ytfnohamcmidgbaa.Ab.T07
