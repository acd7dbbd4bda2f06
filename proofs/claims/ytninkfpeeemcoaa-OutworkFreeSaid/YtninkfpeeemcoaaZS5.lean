/- The shop of the plain laws about outworkers: its walk. -/
import Derived.Test.YtninkfpeeemcoaaZS1
namespace Go.Proofs.Ytninkfpeeemcoaa.Ab.T07
open Go Go.RowKit
set_option linter.unusedVariables false
set_option linter.unusedSimpArgs false
set_option maxRecDepth 100000
theorem rlA_len (r : Rl) : (rlA r).length = 24 := rfl
theorem rlA_get (r : Rl) {n : Nat} (h : n < 24) : (List.take 1 (List.drop n (rlA r))).headD .un = .v (.int .i64 (r n)) := by
  match n, h with
  | 0, _ | 1, _ | 2, _ | 3, _ | 4, _ | 5, _ | 6, _ | 7, _ | 8, _ | 9, _ | 10, _ | 11, _ | 12, _ | 13, _ | 14, _ | 15, _ | 16, _ | 17, _ | 18, _ | 19, _ | 20, _ | 21, _ | 22, _ | 23, _ => rfl
  | n + 24, h => omega
theorem rlA_put (r : Rl) {n : Nat} (h : n < 24) (v : Int) : put (rlA r) n [.v (.int .i64 v)] = rlA (setI r n v) := by
  match n, h with
  | 0, _ | 1, _ | 2, _ | 3, _ | 4, _ | 5, _ | 6, _ | 7, _ | 8, _ | 9, _ | 10, _ | 11, _ | 12, _ | 13, _ | 14, _ | 15, _ | 16, _ | 17, _ | 18, _ | 19, _ | 20, _ | 21, _ | 22, _ | 23, _ => rfl
  | n + 24, h => omega
theorem rlA_low (O : Nat → Option Obj) (fr : List Nat) (ρ : Nat → Option (Option Nat)) (r : Rl) : eqrL (eqr1 ρ) (List.map (low1 O fr) (List.take 24 (rlA r))) (rlA r) := by
  unfold rlA
  and_intros <;> first | rfl | trivial
/-- What is so while fans are made. -/
structure FanJ (h : Hs) (l : List Int) (i W N : Nat) (r : Rl) (q : Nat × Rl) : Prop where
  le : q.1 ≤ N
  eq : fansS h l i W (N - q.1) q.1 q.2 = fansS h l i W N 0 r
  ot : ∀ m, m ≠ 12 + 2 * W → m ≠ 12 + 2 * W + 1 → q.2 m = r m
  nn : ∀ j, 0 ≤ q.2 j
  left : ∀ s : Nat, s < 2 → 0 ≤ leftI q.2 W s
theorem FanJ.bd {h : Hs} {l : List Int} {i W N : Nat} {r : Rl} {q : Nat × Rl} (j : FanJ h l i W N r q) (hr : r.Bd) : Rl.Bd q.2 := fun m => by
  obtain ⟨j1, j2, j3, j4, j5⟩ := j
  refine ⟨j4 m, ?_⟩
  by_cases c : m = 12 + 2 * W ∨ m = 12 + 2 * W + 1
  · obtain ⟨s, hs, e⟩ : ∃ s, s < 2 ∧ m = 12 + 2 * W + s := ⟨m - 12 - 2 * W, by omega, by omega⟩
    have a := j5 s hs
    unfold leftI at a
    have b := j3 (2 * W + s) (by omega) (by omega)
    have b1 := hr (2 * W + s)
    have c1 := j4 (6 + 2 * W + s)
    have c2 := j4 (18 + 2 * W + s)
    rw [← e] at a
    omega
  · rw [j3 m (by omega) (by omega)]
    exact (hr m).2
theorem FanJ.step {h : Hs} {l : List Int} {i W N : Nat} {r : Rl} {q : Nat × Rl} (ht : ∀ s : Nat, s < 2 → 0 ≤ (nth h.tk s).1 ∧ (nth h.tk s).1 ≤ (nth h.tk s).2) (j : FanJ h l i W N r q) (h1 : q.1 < N) (h2 : leftI q.2 W 0 ≥ (nth h.tk 0).2) (h3 : leftI q.2 W 1 ≥ (nth h.tk 1).2) :
    FanJ h l i W N r (q.1 + 1, fanR h l i W q.2 q.1) := by
  obtain ⟨j1, j2, j3, j4, j5⟩ := j
  have g : ∀ s : Nat, s < 2 → fanG (nth h.tk s) l (i + q.1 + s) ≤ leftI q.2 W s := fun s hs => by
    have b := fanG_bd (ht s hs).2 l (i + q.1 + s)
    obtain rfl | rfl : s = 0 ∨ s = 1 := by omega
    · omega
    · omega
  have b0 := fanG_bd (ht 0 (by omega)).2 l (i + q.1)
  have b1 := fanG_bd (ht 1 (by omega)).2 l (i + q.1 + 1)
  have t0 := ht 0 (by omega)
  have t1 := ht 1 (by omega)
  refine ⟨by simp only; omega, ?_, fun m m1 m2 => ?_, fun m => ?_, fun s hs => ?_⟩
  · rw [← j2]
    obtain ⟨k, hk⟩ : ∃ k, N - q.1 = k + 1 := ⟨N - q.1 - 1, by omega⟩
    rw [hk, fansS, if_pos ⟨h2, h3⟩]
    simp only
    rw [show N - (q.1 + 1) = k by omega]
  · simp only
    rw [fanR_at, if_neg m1, if_neg m2, j3 m m1 m2]
    omega
  · have := j4 m
    simp only
    rw [fanR_at]
    split <;> split <;> omega
  · simp only
    rw [fan_left h l i W q.2 q.1 s hs]
    have := g s hs
    omega
theorem FanJ.stop {h : Hs} {l : List Int} {i W N : Nat} {r : Rl} {q : Nat × Rl} (j : FanJ h l i W N r q) (h1 : ¬ (q.1 < N ∧ leftI q.2 W 0 ≥ (nth h.tk 0).2 ∧ leftI q.2 W 1 ≥ (nth h.tk 1).2)) : fansS h l i W N 0 r = q := by
  rw [← j.eq]
  obtain ⟨q1, q2⟩ := q
  simp only at *
  by_cases c : q1 < N
  · obtain ⟨k, hk⟩ : ∃ k, N - q1 = k + 1 := ⟨N - q1 - 1, by omega⟩
    rw [hk, fansS, if_neg (fun g => h1 ⟨c, g⟩)]
  · rw [show N - q1 = 0 by omega, fansS]
/-- The stuffs of one fan. -/
def fanK (h : Hs) (l : List Int) (i w : Nat) (r : Rl) (fans : Nat) : Nat → Rl
  | 0 => r
  | k + 1 => setI (fanK h l i w r fans k) (12 + w * 2 + k * 1) (fanK h l i w r fans k (12 + w * 2 + k * 1) + fanG (nth h.tk k) l (i + fans + k))
theorem fanK_two (h : Hs) (l : List Int) (i w : Nat) (r : Rl) (fans : Nat) : fanK h l i w r fans 2 = fanR h l i w r fans := by
  funext m
  rw [fanR_at]
  simp only [fanK, setI]
  by_cases c1 : m = 12 + 2 * w
  · rw [if_neg (by omega), if_pos (by omega), if_pos c1, if_neg (by omega), show 12 + w * 2 + 0 * 1 = m by omega]
    simp only [Nat.add_zero]
    omega
  · by_cases c2 : m = 12 + 2 * w + 1
    · rw [if_pos (by omega), if_neg (by omega), if_neg c1, if_pos c2, show 12 + w * 2 + 1 * 1 = m by omega]
      omega
    · rw [if_neg (by omega), if_neg (by omega), if_neg c1, if_neg c2]; omega
theorem fanK_at (h : Hs) (l : List Int) (i w : Nat) (r : Rl) (fans k : Nat) (hk : k < 2) : fanK h l i w r fans k (12 + w * 2 + k * 1) = r (12 + w * 2 + k * 1) := by
  obtain rfl | rfl : k = 0 ∨ k = 1 := by omega
  · rfl
  · simp only [fanK]
    rw [setI_ne _ _ (by omega)]
theorem left00_spec (r : Rl) (w : Nat) (hw : w < 3) (hr : r.Bd) : SpecF Try.prog 13 [.agg (rlA r), .v (.int .i64 w), .v (.int .i64 0)] (.v (.int .i64 (leftI r w 0))) [] := left0_spec r w 0 hw (by omega) hr
theorem left01_spec (r : Rl) (w : Nat) (hw : w < 3) (hr : r.Bd) : SpecF Try.prog 13 [.agg (rlA r), .v (.int .i64 w), .v (.int .i64 1)] (.v (.int .i64 (leftI r w 1))) [] := left0_spec r w 1 hw (by omega) hr
theorem rlA_ids (r : Rl) : List.flatMap id1 (List.take 24 (rlA r)) = [] := rfl
theorem lostS_bd {h : Hs} {l : List Int} {st : St} {N : Nat} (hh : OkH h) (h2 : h.tk.length = 2) (hl : ∀ n ∈ l, By n) (t : TrS h st N) (hN : N ≤ 10) {n : Nat} (hn : n ≤ 6) : Rl.Bd (lostS h l st.2 n) := fun j => by
  obtain ⟨i1, i2⟩ := lost_ok hh h2 hl t n hn
  have hb := t.bd hN
  by_cases c : j < 18 ∨ 18 + n ≤ j
  · rw [i1 j c]; exact hb j
  · have e : j = 18 + (j - 18) := by omega
    have h3 := i2 (j - 18) (by omega)
    rw [← e] at h3
    have h4 := hb (2 * ((j - 18) / 2) + (j - 18) % 2)
    have a1 := t.nn (6 + 2 * ((j - 18) / 2) + (j - 18) % 2)
    have a2 := t.nn (12 + 2 * ((j - 18) / 2) + (j - 18) % 2)
    have a3 := t.nn (18 + 2 * ((j - 18) / 2) + (j - 18) % 2)
    have h5 := h3.2.1
    unfold leftI at h5
    omega
theorem lostS_left {h : Hs} {l : List Int} {st : St} {N : Nat} (hh : OkH h) (h2 : h.tk.length = 2) (hl : ∀ n ∈ l, By n) (t : TrS h st N) {w s : Nat} (hw : w < 3) (hs : s < 2) : 0 ≤ leftI (lostS h l st.2 (2 * w + s)) w s := by
  obtain ⟨i1, i2⟩ := lost_ok hh h2 hl t (2 * w + s) (by omega)
  rw [leftI_congr (i1 _ (by omega)) (i1 _ (by omega)) (i1 _ (by omega)), i1 _ (by omega)]
  have := t.left w s hw hs
  omega
theorem rlA_all (r0 r : Rl) : put (rlA r0) 0 (List.take 24 (rlA r)) = rlA r := rfl
theorem rlA_take (r : Rl) : List.take 24 (rlA r) = rlA r := rfl
set_option maxHeartbeats 4000000 in
theorem shop_spec (x : Sh) (l : List Int) (hx : x.Ok) (hl : ∀ n ∈ l, By n) : SpecF Try.prog 8 [.agg (shA x), .sl 1 (l.map u8R)]
    (.tup [.agg [.v (.int .i64 (houseX x).sc), .ob 0 2, .ob 1 2], .ob 2 (bookX x l).length, .agg (rlA (realX x l))]) [.row 47 2 ((houseX x).tk.map spR) false, .row 3 1 ((houseX x).lo.map iR) false, .row 60 4 ((bookX x l).map enR) false] := by
  have hh := houseX_ok hx
  have hx0 := hx
  obtain ⟨⟨ba, bb, bc, bd, be, bf⟩, bl⟩ := hx
  unfold By at ba bb bc bd be bf
  have m1 : IntKind.i64.wrap x.hs.a = x.hs.a := wrap_id (by omega) (by omega)
  have m2 : IntKind.i64.wrap x.hs.b = x.hs.b := wrap_id (by omega) (by omega)
  have m3 : IntKind.i64.wrap x.hs.c = x.hs.c := wrap_id (by omega) (by omega)
  have m4 : IntKind.i64.wrap x.hs.d = x.hs.d := wrap_id (by omega) (by omega)
  have m5 : IntKind.i64.wrap x.hs.e = x.hs.e := wrap_id (by omega) (by omega)
  have m6 : IntKind.i64.wrap x.hs.f = x.hs.f := wrap_id (by omega) (by omega)
  have t1 : x.hs.a.tmod 8 = x.hs.a % 8 := Int.tmod_eq_emod_of_nonneg (by omega)
  have t2 : x.hs.b.tmod 20 = x.hs.b % 20 := Int.tmod_eq_emod_of_nonneg (by omega)
  have t3 : x.hs.c.tmod 5 = x.hs.c % 5 := Int.tmod_eq_emod_of_nonneg (by omega)
  have t4 : x.hs.d.tmod 9 = x.hs.d % 9 := Int.tmod_eq_emod_of_nonneg (by omega)
  have t5 : x.hs.e.tmod 3 = x.hs.e % 3 := Int.tmod_eq_emod_of_nonneg (by omega)
  have t6 : x.hs.f.tmod 150 = x.hs.f % 150 := Int.tmod_eq_emod_of_nonneg (by omega)
  have t7 : x.hs.f.tdiv 3 = x.hs.f / 3 := quo_of (by omega)
  have n1 : IntKind.i64.wrap (x.hs.a % 8) = x.hs.a % 8 := wrap_id (by omega) (by omega)
  have n2 : IntKind.i64.wrap (x.hs.b % 20) = x.hs.b % 20 := wrap_id (by omega) (by omega)
  have n3 : IntKind.i64.wrap (x.hs.c % 5) = x.hs.c % 5 := wrap_id (by omega) (by omega)
  have n4 : IntKind.i64.wrap (x.hs.d % 9) = x.hs.d % 9 := wrap_id (by omega) (by omega)
  have n5 : IntKind.i64.wrap (x.hs.e % 3) = x.hs.e % 3 := wrap_id (by omega) (by omega)
  have n6 : IntKind.i64.wrap (x.hs.f % 150) = x.hs.f % 150 := wrap_id (by omega) (by omega)
  have n7 : IntKind.i64.wrap (x.hs.f / 3) = x.hs.f / 3 := wrap_id (by omega) (by omega)
  have n8 : IntKind.i64.wrap (x.hs.b % 20 + x.hs.c % 5) = x.hs.b % 20 + x.hs.c % 5 := wrap_id (by omega) (by omega)
  have n9 : IntKind.i64.wrap (x.hs.d % 9 + x.hs.e % 3) = x.hs.d % 9 + x.hs.e % 3 := wrap_id (by omega) (by omega)
  unfold shA
  refine spec_go (N := 281) (rs := [.cell 4 30, .tmp 5, .cell 6 35]) (eq := eqs) rfl rfl fun_8 rfl (by kernel_rfl) (by kernel_rfl) (by simp) (by simp) (by simp) (by simp) fun R hR => ?_
  simp (maxSteps := 2000000) only [vcA, ↓vcP, ↓reduceIte, reduceCtorEq, Nat.reduceAdd, Nat.reduceMul, Nat.reduceSub, Nat.reduceLT, Nat.reduceLeDiff, Nat.reduceEqDiff, Nat.reduceBEq, Nat.reduceBNe, Nat.reduceGT, Nat.reduceDiv, Nat.reduceMod, Int.reduceAdd, Int.reduceSub, Int.reduceNeg, Int.reduceLT, Int.reduceLE, Int.reduceEq, Int.reduceToNat, fA, m1, m2, m3, m4, m5, m6, t1, t2, t3, t4, t5, t6, t7, n1, n2, n3, n4, n5, n6, n7, n8, n9]
  repeat (first | refine ⟨by kernel_rfl, ?_⟩ | refine ⟨⟨by kernel_rfl, by kernel_rfl⟩, ?_⟩ | refine ⟨⟨by kernel_rfl, by kernel_rfl, by kernel_rfl⟩, ?_⟩ | refine ⟨⟨by kernel_rfl, by kernel_rfl, by kernel_rfl, by kernel_rfl⟩, ?_⟩ | refine ⟨⟨by kernel_rfl, by kernel_rfl, by kernel_rfl, by kernel_rfl, by kernel_rfl⟩, ?_⟩ | refine ⟨⟨by kernel_rfl, by kernel_rfl, by kernel_rfl, by kernel_rfl, by kernel_rfl, by kernel_rfl⟩, ?_⟩ | refine ⟨⟨by kernel_rfl, by kernel_rfl, by kernel_rfl, by kernel_rfl, by kernel_rfl, by kernel_rfl, by kernel_rfl⟩, ?_⟩ | refine ⟨⟨by kernel_rfl, by kernel_rfl, by kernel_rfl, by kernel_rfl, by kernel_rfl, by kernel_rfl, by kernel_rfl, by kernel_rfl⟩, ?_⟩ | refine ⟨⟨by kernel_rfl, by kernel_rfl, by kernel_rfl, by kernel_rfl, by kernel_rfl, by kernel_rfl, by kernel_rfl, by kernel_rfl, by kernel_rfl⟩, ?_⟩ | refine ⟨⟨by kernel_rfl, by kernel_rfl, by kernel_rfl, by kernel_rfl, by kernel_rfl, by kernel_rfl, by kernel_rfl, by kernel_rfl, by kernel_rfl, by kernel_rfl⟩, ?_⟩ | refine ⟨⟨by kernel_rfl, by kernel_rfl, by kernel_rfl, by kernel_rfl, by kernel_rfl, by kernel_rfl, by kernel_rfl, by kernel_rfl, by kernel_rfl, by kernel_rfl, by kernel_rfl⟩, ?_⟩ | refine ⟨⟨by kernel_rfl, by kernel_rfl, by kernel_rfl, by kernel_rfl, by kernel_rfl, by kernel_rfl, by kernel_rfl, by kernel_rfl, by kernel_rfl, by kernel_rfl, by kernel_rfl, by kernel_rfl⟩, ?_⟩ | refine ⟨⟨by kernel_rfl, by kernel_rfl, by kernel_rfl, by kernel_rfl, by kernel_rfl, by kernel_rfl, by kernel_rfl, by kernel_rfl, by kernel_rfl, by kernel_rfl, by kernel_rfl, by kernel_rfl, by kernel_rfl⟩, ?_⟩)
  refine onF_data (span_spec (x.hs.b % 20) (x.hs.b % 20 + x.hs.c % 5)) ?_ ?_
  · simp (maxSteps := 2000000) only [okA, ↓okP, Nat.reduceAdd, Nat.reduceMul, Nat.reduceSub, Nat.reduceLT, Nat.reduceLeDiff, Nat.reduceEqDiff, Nat.reduceBEq, ↓reduceIte, reduceCtorEq]
  simp (maxSteps := 2000000) only [vcA, ↓vcP, ↓reduceIte, reduceCtorEq, Nat.reduceAdd, Nat.reduceMul, Nat.reduceSub, Nat.reduceLT, Nat.reduceLeDiff, Nat.reduceEqDiff, Nat.reduceBEq, Nat.reduceBNe, Nat.reduceGT, Nat.reduceDiv, Nat.reduceMod, Int.reduceAdd, Int.reduceSub, Int.reduceNeg, Int.reduceLT, Int.reduceLE, Int.reduceEq, Int.reduceToNat, fA, m1, m2, m3, m4, m5, m6, t1, t2, t3, t4, t5, t6, t7, n1, n2, n3, n4, n5, n6, n7, n8, n9]
  repeat (first | refine ⟨by kernel_rfl, ?_⟩ | refine ⟨⟨by kernel_rfl, by kernel_rfl⟩, ?_⟩ | refine ⟨⟨by kernel_rfl, by kernel_rfl, by kernel_rfl⟩, ?_⟩ | refine ⟨⟨by kernel_rfl, by kernel_rfl, by kernel_rfl, by kernel_rfl⟩, ?_⟩ | refine ⟨⟨by kernel_rfl, by kernel_rfl, by kernel_rfl, by kernel_rfl, by kernel_rfl⟩, ?_⟩ | refine ⟨⟨by kernel_rfl, by kernel_rfl, by kernel_rfl, by kernel_rfl, by kernel_rfl, by kernel_rfl⟩, ?_⟩ | refine ⟨⟨by kernel_rfl, by kernel_rfl, by kernel_rfl, by kernel_rfl, by kernel_rfl, by kernel_rfl, by kernel_rfl⟩, ?_⟩ | refine ⟨⟨by kernel_rfl, by kernel_rfl, by kernel_rfl, by kernel_rfl, by kernel_rfl, by kernel_rfl, by kernel_rfl, by kernel_rfl⟩, ?_⟩ | refine ⟨⟨by kernel_rfl, by kernel_rfl, by kernel_rfl, by kernel_rfl, by kernel_rfl, by kernel_rfl, by kernel_rfl, by kernel_rfl, by kernel_rfl⟩, ?_⟩ | refine ⟨⟨by kernel_rfl, by kernel_rfl, by kernel_rfl, by kernel_rfl, by kernel_rfl, by kernel_rfl, by kernel_rfl, by kernel_rfl, by kernel_rfl, by kernel_rfl⟩, ?_⟩ | refine ⟨⟨by kernel_rfl, by kernel_rfl, by kernel_rfl, by kernel_rfl, by kernel_rfl, by kernel_rfl, by kernel_rfl, by kernel_rfl, by kernel_rfl, by kernel_rfl, by kernel_rfl⟩, ?_⟩ | refine ⟨⟨by kernel_rfl, by kernel_rfl, by kernel_rfl, by kernel_rfl, by kernel_rfl, by kernel_rfl, by kernel_rfl, by kernel_rfl, by kernel_rfl, by kernel_rfl, by kernel_rfl, by kernel_rfl⟩, ?_⟩ | refine ⟨⟨by kernel_rfl, by kernel_rfl, by kernel_rfl, by kernel_rfl, by kernel_rfl, by kernel_rfl, by kernel_rfl, by kernel_rfl, by kernel_rfl, by kernel_rfl, by kernel_rfl, by kernel_rfl, by kernel_rfl⟩, ?_⟩)
  refine onF_data (span_spec (x.hs.d % 9) (x.hs.d % 9 + x.hs.e % 3)) ?_ ?_
  · simp (maxSteps := 2000000) only [okA, ↓okP, Nat.reduceAdd, Nat.reduceMul, Nat.reduceSub, Nat.reduceLT, Nat.reduceLeDiff, Nat.reduceEqDiff, Nat.reduceBEq, ↓reduceIte, reduceCtorEq]
  simp (maxSteps := 2000000) only [vcA, ↓vcP, ↓reduceIte, reduceCtorEq, Nat.reduceAdd, Nat.reduceMul, Nat.reduceSub, Nat.reduceLT, Nat.reduceLeDiff, Nat.reduceEqDiff, Nat.reduceBEq, Nat.reduceBNe, Nat.reduceGT, Nat.reduceDiv, Nat.reduceMod, Int.reduceAdd, Int.reduceSub, Int.reduceNeg, Int.reduceLT, Int.reduceLE, Int.reduceEq, Int.reduceToNat, fA, m1, m2, m3, m4, m5, m6, t1, t2, t3, t4, t5, t6, t7, n1, n2, n3, n4, n5, n6, n7, n8, n9]
  repeat (first | refine ⟨by kernel_rfl, ?_⟩ | refine ⟨⟨by kernel_rfl, by kernel_rfl⟩, ?_⟩ | refine ⟨⟨by kernel_rfl, by kernel_rfl, by kernel_rfl⟩, ?_⟩ | refine ⟨⟨by kernel_rfl, by kernel_rfl, by kernel_rfl, by kernel_rfl⟩, ?_⟩ | refine ⟨⟨by kernel_rfl, by kernel_rfl, by kernel_rfl, by kernel_rfl, by kernel_rfl⟩, ?_⟩ | refine ⟨⟨by kernel_rfl, by kernel_rfl, by kernel_rfl, by kernel_rfl, by kernel_rfl, by kernel_rfl⟩, ?_⟩ | refine ⟨⟨by kernel_rfl, by kernel_rfl, by kernel_rfl, by kernel_rfl, by kernel_rfl, by kernel_rfl, by kernel_rfl⟩, ?_⟩ | refine ⟨⟨by kernel_rfl, by kernel_rfl, by kernel_rfl, by kernel_rfl, by kernel_rfl, by kernel_rfl, by kernel_rfl, by kernel_rfl⟩, ?_⟩ | refine ⟨⟨by kernel_rfl, by kernel_rfl, by kernel_rfl, by kernel_rfl, by kernel_rfl, by kernel_rfl, by kernel_rfl, by kernel_rfl, by kernel_rfl⟩, ?_⟩ | refine ⟨⟨by kernel_rfl, by kernel_rfl, by kernel_rfl, by kernel_rfl, by kernel_rfl, by kernel_rfl, by kernel_rfl, by kernel_rfl, by kernel_rfl, by kernel_rfl⟩, ?_⟩ | refine ⟨⟨by kernel_rfl, by kernel_rfl, by kernel_rfl, by kernel_rfl, by kernel_rfl, by kernel_rfl, by kernel_rfl, by kernel_rfl, by kernel_rfl, by kernel_rfl, by kernel_rfl⟩, ?_⟩ | refine ⟨⟨by kernel_rfl, by kernel_rfl, by kernel_rfl, by kernel_rfl, by kernel_rfl, by kernel_rfl, by kernel_rfl, by kernel_rfl, by kernel_rfl, by kernel_rfl, by kernel_rfl, by kernel_rfl⟩, ?_⟩ | refine ⟨⟨by kernel_rfl, by kernel_rfl, by kernel_rfl, by kernel_rfl, by kernel_rfl, by kernel_rfl, by kernel_rfl, by kernel_rfl, by kernel_rfl, by kernel_rfl, by kernel_rfl, by kernel_rfl, by kernel_rfl⟩, ?_⟩)
  have hS : ∀ i, stN x l (i + 1) = stepS (houseX x) l i (nth x.ls i) (stN x l i) := fun i => rfl
  refine goC_loop (α := {i : Nat // i ≤ numX x}) (fun y => ⟨[(1, .sl 1 (l.map u8R)), (2, .ptr 8 0), (4, .ptr 16 0), (6, .ptr 32 0), (7, .ptr 456 0), (8, .ob 520 (stN x l y.1).1.length), (9, .ptr 488 0), (10, .v (.int .i64 y.1))], [(8, .box 25 (shA x)), (16, .box 30 [.v (.int .i64 0), .v (.slice none 0 0), .v (.slice none 0 0)]), (32, .box 35 (rlA fun _ => 0)), (352, .row 47 2 ((houseX x).tk.map spR) false), (440, .row 3 1 ((houseX x).lo.map iR) false), (456, .box 30 [.v (.int .i64 (houseX x).sc), .ob 352 2, .ob 440 2]), (488, .box 35 (rlA (stN x l y.1).2)), (520, .row 60 4 ((stN x l y.1).1.map enR) false)]⟩) (fun y => numX x - y.1) ⟨0, by omega⟩ [some 472] ?_ ?_
  · simp (maxSteps := 2000000) only [enA, ↓enP, Nat.reduceAdd, Nat.reduceMul, Nat.reduceSub, Nat.reduceLT, Nat.reduceLeDiff, Nat.reduceEqDiff, Nat.reduceBEq, ↓reduceIte, reduceCtorEq, fA, shA, rlA]
    and_intros <;> rfl
  intro y B hB
  obtain ⟨i, hi⟩ := y
  have tr := stN_tr hx0 l i hi
  have hSi := hS i
  have h2 : (houseX x).tk.length = 2 := rfl
  have h3 : (houseX x).lo.length = 2 := rfl
  have hsc : (houseX x).sc ≤ 7 := by simp only [houseX]; omega
  have hnum : numX x ≤ 10 := by unfold numX; omega
  have hk := houseX_ok hx0
  obtain ⟨h, hh0⟩ : ∃ h, h = houseX x := ⟨_, rfl⟩
  rw [← hh0] at tr hSi h2 h3 hsc hk
  simp only [← hh0] at hB ⊢
  generalize hst0 : stN x l i = st at *
  obtain ⟨bk, r⟩ := st
  by_cases c1 : i < numX x
  · have hb2 : i < x.ls.length ∧ i < 10 := by unfold numX at c1; omega
    have p1 : (i < x.ls.length) = True := eq_true hb2.1
    have p2 : ((i : Int) < 10) = True := eq_true (by omega)
    have hv := bl _ (nth_mem hb2.1)
    obtain ⟨v, hvv⟩ : ∃ v, v = nth x.ls i := ⟨_, rfl⟩
    rw [← hvv] at hv hSi
    have hvv := hvv.symm
    obtain ⟨va, vb, vc, vd⟩ := hv
    unfold By at va vb vc vd
    have ea : IntKind.i64.wrap v.a = v.a := wrap_id (by omega) (by omega)
    have eb : IntKind.i64.wrap v.b = v.b := wrap_id (by omega) (by omega)
    have ec : IntKind.i64.wrap v.c = v.c := wrap_id (by omega) (by omega)
    have ta : v.a.tmod 3 = ((wOf v : Nat) : Int) := by rw [Int.tmod_eq_emod_of_nonneg (by omega)]; unfold wOf; omega
    have tq : v.a.tdiv 4 = v.a / 4 := quo_of (by omega)
    have tqw : IntKind.i64.wrap (v.a / 4) = v.a / 4 := wrap_id (by omega) (by omega)
    have ts : (v.a / 4).tmod 2 = ((sOf v : Nat) : Int) := by rw [Int.tmod_eq_emod_of_nonneg (by omega)]; unfold sOf; omega
    have tb : v.b.tmod 3 = v.b % 3 := Int.tmod_eq_emod_of_nonneg (by omega)
    have tbw : IntKind.i64.wrap (v.b % 3) = v.b % 3 := wrap_id (by omega) (by omega)
    have hw3 : wOf v < 3 := by unfold wOf; omega
    have hs2 : sOf v < 2 := by unfold sOf; omega
    have tww : IntKind.i64.wrap ((wOf v : Nat) : Int) = ((wOf v : Nat) : Int) := wrap_id (by omega) (by omega)
    have tsw : IntKind.i64.wrap ((sOf v : Nat) : Int) = ((sOf v : Nat) : Int) := wrap_id (by omega) (by omega)
    have pw : ((wOf v : Int) < 3) = True := eq_true (by omega)
    have ps : ((sOf v : Int) < 2) = True := eq_true (by omega)
    have pl0 : (wOf v * 2 + sOf v * 1 + 1 ≤ (rlA r).length) = True := eq_true (by rw [rlA_len]; omega)
    have pg0 := rlA_get r (n := wOf v * 2 + sOf v * 1) (by omega)
    have i1 : 2 * wOf v + sOf v = wOf v * 2 + sOf v * 1 := by omega
    have rb : 0 ≤ r (wOf v * 2 + sOf v * 1) ∧ r (wOf v * 2 + sOf v * 1) ≤ 8050 := by
      have a := tr.nn (2 * wOf v + sOf v)
      have b := tr.out _ _ hw3 hs2
      simp only at a b
      rw [i1] at a b
      omega
    have ec3 : IntKind.i64.wrap (3 * v.c) = 3 * v.c := wrap_id (by omega) (by omega)
    have ec4 : IntKind.i64.wrap (40 + 3 * v.c) = 40 + 3 * v.c := wrap_id (by omega) (by omega)
    have ec5 : IntKind.i64.wrap (r (wOf v * 2 + sOf v * 1) + (40 + 3 * v.c)) = r (wOf v * 2 + sOf v * 1) + (40 + 3 * v.c) := wrap_id (by omega) (by omega)
    have g3 : v.b % 3 = 0 ∨ v.b % 3 = 1 ∨ v.b % 3 = 2 := by omega
    rcases g3 with g | g | g
    · have q0 : (v.b % 3 == 0) = true := by rw [g]; rfl
      simp (maxSteps := 2000000) only [vcA, ↓vcP, ↓reduceIte, reduceCtorEq, Nat.reduceAdd, Nat.reduceMul, Nat.reduceSub, Nat.reduceLT, Nat.reduceLeDiff, Nat.reduceEqDiff, Nat.reduceBEq, Nat.reduceBNe, Nat.reduceGT, Nat.reduceDiv, Nat.reduceMod, Int.reduceAdd, Int.reduceSub, Int.reduceNeg, Int.reduceLT, Int.reduceLE, Int.reduceEq, Int.reduceToNat, fA, p1, p2, hvv, c4R, shA, ea, ta, tq, tqw, ts, tww, tsw, eb, tb, tbw, q0, pw, ps, pl0, pg0, ec, ec3, ec4, ec5]
      rw [rlA_put r (by omega)]
      repeat (first | refine ⟨by kernel_rfl, ?_⟩ | refine ⟨⟨by kernel_rfl, by kernel_rfl⟩, ?_⟩ | refine ⟨⟨by kernel_rfl, by kernel_rfl, by kernel_rfl⟩, ?_⟩ | refine ⟨⟨by kernel_rfl, by kernel_rfl, by kernel_rfl, by kernel_rfl⟩, ?_⟩ | refine ⟨⟨by kernel_rfl, by kernel_rfl, by kernel_rfl, by kernel_rfl, by kernel_rfl⟩, ?_⟩ | refine ⟨⟨by kernel_rfl, by kernel_rfl, by kernel_rfl, by kernel_rfl, by kernel_rfl, by kernel_rfl⟩, ?_⟩ | refine ⟨⟨by kernel_rfl, by kernel_rfl, by kernel_rfl, by kernel_rfl, by kernel_rfl, by kernel_rfl, by kernel_rfl⟩, ?_⟩ | refine ⟨⟨by kernel_rfl, by kernel_rfl, by kernel_rfl, by kernel_rfl, by kernel_rfl, by kernel_rfl, by kernel_rfl, by kernel_rfl⟩, ?_⟩ | refine ⟨⟨by kernel_rfl, by kernel_rfl, by kernel_rfl, by kernel_rfl, by kernel_rfl, by kernel_rfl, by kernel_rfl, by kernel_rfl, by kernel_rfl⟩, ?_⟩ | refine ⟨⟨by kernel_rfl, by kernel_rfl, by kernel_rfl, by kernel_rfl, by kernel_rfl, by kernel_rfl, by kernel_rfl, by kernel_rfl, by kernel_rfl, by kernel_rfl⟩, ?_⟩ | refine ⟨⟨by kernel_rfl, by kernel_rfl, by kernel_rfl, by kernel_rfl, by kernel_rfl, by kernel_rfl, by kernel_rfl, by kernel_rfl, by kernel_rfl, by kernel_rfl, by kernel_rfl⟩, ?_⟩ | refine ⟨⟨by kernel_rfl, by kernel_rfl, by kernel_rfl, by kernel_rfl, by kernel_rfl, by kernel_rfl, by kernel_rfl, by kernel_rfl, by kernel_rfl, by kernel_rfl, by kernel_rfl, by kernel_rfl⟩, ?_⟩ | refine ⟨⟨by kernel_rfl, by kernel_rfl, by kernel_rfl, by kernel_rfl, by kernel_rfl, by kernel_rfl, by kernel_rfl, by kernel_rfl, by kernel_rfl, by kernel_rfl, by kernel_rfl, by kernel_rfl, by kernel_rfl⟩, ?_⟩)
      refine onF_call (shown_spec h (40 + 3 * v.c) l i hk.sc (by omega) hl (by omega)) [] [352, 440] [] ?_ ?_
      · simp (maxSteps := 2000000) only [okA, ↓okP, Nat.reduceAdd, Nat.reduceMul, Nat.reduceSub, Nat.reduceLT, Nat.reduceLeDiff, Nat.reduceEqDiff, Nat.reduceBEq, ↓reduceIte, reduceCtorEq]
      simp (maxSteps := 2000000) only [vcA, ↓vcP, ↓reduceIte, reduceCtorEq, Nat.reduceAdd, Nat.reduceMul, Nat.reduceSub, Nat.reduceLT, Nat.reduceLeDiff, Nat.reduceEqDiff, Nat.reduceBEq, Nat.reduceBNe, Nat.reduceGT, Nat.reduceDiv, Nat.reduceMod, Int.reduceAdd, Int.reduceSub, Int.reduceNeg, Int.reduceLT, Int.reduceLE, Int.reduceEq, Int.reduceToNat, fA]
      have hbl := tr.len
      simp only at hbl
      refine ⟨⟨by omega, by simp only [maxLen]; omega⟩, fun _ => ?_⟩
      have e0 : IntKind.i64.wrap ((i : Int) + 1) = ((i + 1 : Nat) : Int) := wrap_id (by omega) (by omega)
      have est : stepS h l i v (bk, r) = (bk ++ [⟨wOf v, 1, sOf v, showI h (40 + 3 * v.c) l i⟩], setI r (wOf v * 2 + sOf v * 1) (r (wOf v * 2 + sOf v * 1) + (40 + 3 * v.c))) := by
        unfold stepS
        rw [if_pos g, i1]
      refine hB _ ⟨i + 1, by omega⟩ [some 1040] (by simp only; omega) rfl ?_
      simp only [hSi, est]
      simp (maxSteps := 2000000) only [enA, ↓enP, Nat.reduceAdd, Nat.reduceMul, Nat.reduceSub, Nat.reduceLT, Nat.reduceLeDiff, Nat.reduceEqDiff, Nat.reduceBEq, ↓reduceIte, reduceCtorEq, fA, shA, rlA, e0, List.map_append, List.length_append]
      rfl
    · have q0 : (v.b % 3 == 0) = false := by rw [g]; rfl
      have q1 : (v.b % 3 == 1) = true := by rw [g]; rfl
      have hL0 := tr.left _ _ hw3 hs2
      simp only at hL0
      have hL1 : leftI r (wOf v) (sOf v) ≤ 8050 := by
        have a := tr.out _ _ hw3 hs2
        have a1 := tr.nn (6 + 2 * wOf v + sOf v)
        have a2 := tr.nn (12 + 2 * wOf v + sOf v)
        have a3 := tr.nn (18 + 2 * wOf v + sOf v)
        simp only at a a1 a2 a3
        unfold leftI
        omega
      simp (maxSteps := 2000000) only [vcA, ↓vcP, ↓reduceIte, reduceCtorEq, Nat.reduceAdd, Nat.reduceMul, Nat.reduceSub, Nat.reduceLT, Nat.reduceLeDiff, Nat.reduceEqDiff, Nat.reduceBEq, Nat.reduceBNe, Nat.reduceGT, Nat.reduceDiv, Nat.reduceMod, Int.reduceAdd, Int.reduceSub, Int.reduceNeg, Int.reduceLT, Int.reduceLE, Int.reduceEq, Int.reduceToNat, fA, p1, p2, hvv, c4R, shA, ea, ta, tq, tqw, ts, tww, tsw, eb, tb, tbw, q0, q1, ec]
      refine ⟨by rw [rlA_len]; omega, fun _ => ?_⟩
      refine onF_data (left0_spec r (wOf v) (sOf v) hw3 hs2 (tr.bd (by omega))) ?_ ?_
      · simp (maxSteps := 2000000) only [okA, ↓okP, Nat.reduceAdd, Nat.reduceMul, Nat.reduceSub, Nat.reduceLT, Nat.reduceLeDiff, Nat.reduceEqDiff, Nat.reduceBEq, ↓reduceIte, reduceCtorEq]
        exact rlA_low _ _ _ _
      have hm0 := Int.mul_nonneg vc.1 hL0
      have hm1 := Int.mul_le_mul_of_nonneg_right (show v.c ≤ 255 by omega) hL0
      have em1 : IntKind.i64.wrap (v.c * leftI r (wOf v) (sOf v)) = v.c * leftI r (wOf v) (sOf v) := wrap_id (by omega) (by omega)
      have em2 : (v.c * leftI r (wOf v) (sOf v)).tdiv 255 = v.c * leftI r (wOf v) (sOf v) / 255 := quo_of (by omega)
      have em3 : IntKind.i64.wrap (v.c * leftI r (wOf v) (sOf v) / 255) = v.c * leftI r (wOf v) (sOf v) / 255 := wrap_id (by omega) (by omega)
      have i2 : 6 + 2 * wOf v + sOf v = 6 + wOf v * 2 + sOf v * 1 := by omega
      have pl1 : (6 + wOf v * 2 + sOf v * 1 + 1 ≤ (rlA r).length) = True := eq_true (by rw [rlA_len]; omega)
      have pg1 := rlA_get r (n := 6 + wOf v * 2 + sOf v * 1) (by omega)
      have rb1 : 0 ≤ r (6 + wOf v * 2 + sOf v * 1) ∧ r (6 + wOf v * 2 + sOf v * 1) ≤ 10000000 := tr.bd (by omega) _
      have em4 : IntKind.i64.wrap (r (6 + wOf v * 2 + sOf v * 1) + v.c * leftI r (wOf v) (sOf v) / 255) = r (6 + wOf v * 2 + sOf v * 1) + v.c * leftI r (wOf v) (sOf v) / 255 := wrap_id (by omega) (by omega)
      simp (maxSteps := 2000000) only [vcA, ↓vcP, ↓reduceIte, reduceCtorEq, Nat.reduceAdd, Nat.reduceMul, Nat.reduceSub, Nat.reduceLT, Nat.reduceLeDiff, Nat.reduceEqDiff, Nat.reduceBEq, Nat.reduceBNe, Nat.reduceGT, Nat.reduceDiv, Nat.reduceMod, Int.reduceAdd, Int.reduceSub, Int.reduceNeg, Int.reduceLT, Int.reduceLE, Int.reduceEq, Int.reduceToNat, fA, ea, eb, ec, em1, em2, em3, em4, pw, ps, pl1, pg1]
      rw [rlA_put r (by omega)]
      repeat (first | refine ⟨by kernel_rfl, ?_⟩ | refine ⟨⟨by kernel_rfl, by kernel_rfl⟩, ?_⟩ | refine ⟨⟨by kernel_rfl, by kernel_rfl, by kernel_rfl⟩, ?_⟩ | refine ⟨⟨by kernel_rfl, by kernel_rfl, by kernel_rfl, by kernel_rfl⟩, ?_⟩ | refine ⟨⟨by kernel_rfl, by kernel_rfl, by kernel_rfl, by kernel_rfl, by kernel_rfl⟩, ?_⟩ | refine ⟨⟨by kernel_rfl, by kernel_rfl, by kernel_rfl, by kernel_rfl, by kernel_rfl, by kernel_rfl⟩, ?_⟩ | refine ⟨⟨by kernel_rfl, by kernel_rfl, by kernel_rfl, by kernel_rfl, by kernel_rfl, by kernel_rfl, by kernel_rfl⟩, ?_⟩ | refine ⟨⟨by kernel_rfl, by kernel_rfl, by kernel_rfl, by kernel_rfl, by kernel_rfl, by kernel_rfl, by kernel_rfl, by kernel_rfl⟩, ?_⟩ | refine ⟨⟨by kernel_rfl, by kernel_rfl, by kernel_rfl, by kernel_rfl, by kernel_rfl, by kernel_rfl, by kernel_rfl, by kernel_rfl, by kernel_rfl⟩, ?_⟩ | refine ⟨⟨by kernel_rfl, by kernel_rfl, by kernel_rfl, by kernel_rfl, by kernel_rfl, by kernel_rfl, by kernel_rfl, by kernel_rfl, by kernel_rfl, by kernel_rfl⟩, ?_⟩ | refine ⟨⟨by kernel_rfl, by kernel_rfl, by kernel_rfl, by kernel_rfl, by kernel_rfl, by kernel_rfl, by kernel_rfl, by kernel_rfl, by kernel_rfl, by kernel_rfl, by kernel_rfl⟩, ?_⟩ | refine ⟨⟨by kernel_rfl, by kernel_rfl, by kernel_rfl, by kernel_rfl, by kernel_rfl, by kernel_rfl, by kernel_rfl, by kernel_rfl, by kernel_rfl, by kernel_rfl, by kernel_rfl, by kernel_rfl⟩, ?_⟩ | refine ⟨⟨by kernel_rfl, by kernel_rfl, by kernel_rfl, by kernel_rfl, by kernel_rfl, by kernel_rfl, by kernel_rfl, by kernel_rfl, by kernel_rfl, by kernel_rfl, by kernel_rfl, by kernel_rfl, by kernel_rfl⟩, ?_⟩)
      refine onF_call (shown_spec h (v.c * leftI r (wOf v) (sOf v) / 255) l i hk.sc (by omega) hl (by omega)) [] [352, 440] [] ?_ ?_
      · simp (maxSteps := 2000000) only [okA, ↓okP, Nat.reduceAdd, Nat.reduceMul, Nat.reduceSub, Nat.reduceLT, Nat.reduceLeDiff, Nat.reduceEqDiff, Nat.reduceBEq, ↓reduceIte, reduceCtorEq]
      simp (maxSteps := 2000000) only [vcA, ↓vcP, ↓reduceIte, reduceCtorEq, Nat.reduceAdd, Nat.reduceMul, Nat.reduceSub, Nat.reduceLT, Nat.reduceLeDiff, Nat.reduceEqDiff, Nat.reduceBEq, Nat.reduceBNe, Nat.reduceGT, Nat.reduceDiv, Nat.reduceMod, Int.reduceAdd, Int.reduceSub, Int.reduceNeg, Int.reduceLT, Int.reduceLE, Int.reduceEq, Int.reduceToNat, fA]
      have hbl := tr.len
      simp only at hbl
      refine ⟨⟨by omega, by simp only [maxLen]; omega⟩, fun _ => ?_⟩
      have e0 : IntKind.i64.wrap ((i : Int) + 1) = ((i + 1 : Nat) : Int) := wrap_id (by omega) (by omega)
      have est : stepS h l i v (bk, r) = (bk ++ [⟨wOf v, 2, sOf v, showI h (v.c * leftI r (wOf v) (sOf v) / 255) l i⟩], setI r (6 + wOf v * 2 + sOf v * 1) (r (6 + wOf v * 2 + sOf v * 1) + v.c * leftI r (wOf v) (sOf v) / 255)) := by
        unfold stepS
        rw [if_neg (by omega), if_pos g, i2]
      refine hB _ ⟨i + 1, by omega⟩ [some 1088] (by simp only; omega) rfl ?_
      simp only [hSi, est]
      simp (maxSteps := 2000000) only [enA, ↓enP, Nat.reduceAdd, Nat.reduceMul, Nat.reduceSub, Nat.reduceLT, Nat.reduceLeDiff, Nat.reduceEqDiff, Nat.reduceBEq, ↓reduceIte, reduceCtorEq, fA, shA, rlA, e0, List.map_append, List.length_append]
      rfl
    · have q0 : (v.b % 3 == 0) = false := by rw [g]; rfl
      have q1 : (v.b % 3 == 1) = false := by rw [g]; rfl
      have q2 : (v.b % 3 == 2) = true := by rw [g]; rfl
      simp (maxSteps := 2000000) only [vcA, ↓vcP, ↓reduceIte, reduceCtorEq, Nat.reduceAdd, Nat.reduceMul, Nat.reduceSub, Nat.reduceLT, Nat.reduceLeDiff, Nat.reduceEqDiff, Nat.reduceBEq, Nat.reduceBNe, Nat.reduceGT, Nat.reduceDiv, Nat.reduceMod, Int.reduceAdd, Int.reduceSub, Int.reduceNeg, Int.reduceLT, Int.reduceLE, Int.reduceEq, Int.reduceToNat, fA, p1, p2, hvv, c4R, shA, ea, ta, tq, tqw, ts, tww, tsw, eb, tb, tbw, q0, q1, q2, ec]
      have ht : ∀ s : Nat, s < 2 → 0 ≤ (nth h.tk s).1 ∧ (nth h.tk s).1 ≤ (nth h.tk s).2 ∧ (nth h.tk s).2 ≤ 1000 := fun s hs => hk.tks _ (nth_mem (by omega))
      have eN : v.c.tmod 20 = (((v.c % 20).toNat : Nat) : Int) := by rw [Int.tmod_eq_emod_of_nonneg (by omega)]; omega
      obtain ⟨N, hN⟩ : ∃ N, N = (v.c % 20).toNat := ⟨_, rfl⟩
      rw [← hN] at eN
      have hN20 : N < 20 := by omega
      have eNw : IntKind.i64.wrap (N : Int) = N := wrap_id (by omega) (by omega)
      have est : stepS h l i v (bk, r) = (bk ++ [⟨wOf v, 3, 0, (fansS h l i (wOf v) N 0 r).1⟩], (fansS h l i (wOf v) N 0 r).2) := by
        unfold stepS
        rw [if_neg (by omega), if_neg (by omega), ← hN]
      clear g
      refine goC_loop (α := {q : Nat × Rl // FanJ h l i (wOf v) N r q}) (fun y => ⟨[(1, .sl 1 (l.map u8R)), (2, .ptr 8 0), (4, .ptr 16 0), (6, .ptr 32 0), (7, .ptr 456 0), (8, .ob 520 bk.length), (9, .ptr 488 0), (10, .v (.int .i64 i)), (11, .ptr 664 0), (12, .v (.int .i64 (wOf v))), (16, .v (.int .i64 y.1.1))], [(8, .box 25 (shA x)), (16, .box 30 [.v (.int .i64 0), .v (.slice none 0 0), .v (.slice none 0 0)]), (32, .box 35 (rlA fun _ => 0)), (352, .row 47 2 (h.tk.map spR) false), (440, .row 3 1 (h.lo.map iR) false), (456, .box 30 [.v (.int .i64 h.sc), .ob 352 2, .ob 440 2]), (488, .box 35 (rlA y.1.2)), (520, .row 60 4 (bk.map enR) false), (664, .box 70 [.v (.int .u8 v.a), .v (.int .u8 v.b), .v (.int .u8 v.c), .v (.int .u8 v.d)])]⟩) (fun y => N - y.1.1) ⟨(0, r), ⟨Nat.zero_le _, rfl, fun _ _ _ => rfl, tr.nn, fun s hs => tr.left _ s hw3 hs⟩⟩ [] ?_ ?_
      · simp (maxSteps := 2000000) only [enA, ↓enP, Nat.reduceAdd, Nat.reduceMul, Nat.reduceSub, Nat.reduceLT, Nat.reduceLeDiff, Nat.reduceEqDiff, Nat.reduceBEq, ↓reduceIte, reduceCtorEq, fA, shA, rlA]
        rfl
      intro y B3 hB3
      obtain ⟨⟨f, r'⟩, hj⟩ := y
      have hbd := hj.bd (tr.bd (by omega))
      have hfN := hj.le
      simp only at hbd hfN
      have pf : ((f : Int) < N) = (f < N) := propext (by omega)
      have hbl := tr.len
      simp only at hbl
      have e0 : IntKind.i64.wrap ((i : Int) + 1) = ((i + 1 : Nat) : Int) := wrap_id (by omega) (by omega)
      by_cases cN : ¬ f < N
      · have hst := hj.stop (fun g => cN g.1)
        have pf1 : ((f : Int) < N) = False := eq_false (by omega)
        have pf2 : ((N : Int) ≤ f) = True := eq_true (by omega)
        simp (maxSteps := 2000000) only [vcA, ↓vcP, ↓reduceIte, reduceCtorEq, Nat.reduceAdd, Nat.reduceMul, Nat.reduceSub, Nat.reduceLT, Nat.reduceLeDiff, Nat.reduceEqDiff, Nat.reduceBEq, Nat.reduceBNe, Nat.reduceGT, Nat.reduceDiv, Nat.reduceMod, Int.reduceAdd, Int.reduceSub, Int.reduceNeg, Int.reduceLT, Int.reduceLE, Int.reduceEq, Int.reduceToNat, fA, ec, eN, eNw, pf1, pf2, shA]
        refine ⟨⟨by omega, by simp only [maxLen]; omega⟩, fun _ => ?_⟩
        refine hB _ ⟨i + 1, by omega⟩ [some 1152] (by simp only; omega) rfl ?_
        simp only [hSi, est]
        rw [hst]
        simp (maxSteps := 2000000) only [enA, ↓enP, Nat.reduceAdd, Nat.reduceMul, Nat.reduceSub, Nat.reduceLT, Nat.reduceLeDiff, Nat.reduceEqDiff, Nat.reduceBEq, ↓reduceIte, reduceCtorEq, fA, shA, rlA, e0, List.map_append, List.length_append]
        rfl
      replace cN : f < N := Decidable.not_not.1 cN
      have pf1 : ((f : Int) < N) = True := eq_true (by omega)
      have pf2 : ((N : Int) ≤ f) = False := eq_false (by omega)
      simp (maxSteps := 2000000) only [vcA, ↓vcP, ↓reduceIte, reduceCtorEq, Nat.reduceAdd, Nat.reduceMul, Nat.reduceSub, Nat.reduceLT, Nat.reduceLeDiff, Nat.reduceEqDiff, Nat.reduceBEq, Nat.reduceBNe, Nat.reduceGT, Nat.reduceDiv, Nat.reduceMod, Int.reduceAdd, Int.reduceSub, Int.reduceNeg, Int.reduceLT, Int.reduceLE, Int.reduceEq, Int.reduceToNat, fA, ec, eN, eNw, pf1, pf2, shA]
      refine ⟨by rw [rlA_len]; omega, fun _ => ?_⟩
      refine onF_data (left00_spec r' (wOf v) hw3 hbd) ?_ ?_
      · simp (maxSteps := 2000000) only [okA, ↓okP, Nat.reduceAdd, Nat.reduceMul, Nat.reduceSub, Nat.reduceLT, Nat.reduceLeDiff, Nat.reduceEqDiff, Nat.reduceBEq, ↓reduceIte, reduceCtorEq]
        exact rlA_low _ _ _ _
      by_cases c0 : ¬ leftI r' (wOf v) 0 ≥ (nth h.tk 0).2
      · have hst := hj.stop (fun g => c0 g.2.1)
        have a01 : (leftI r' (wOf v) 0 ≥ (nth h.tk 0).2) = False := eq_false c0
        have a02 : ((nth h.tk 0).2 ≤ leftI r' (wOf v) 0) = False := eq_false c0
        have a03 : (leftI r' (wOf v) 0 < (nth h.tk 0).2) = True := eq_true (by omega)
        simp (maxSteps := 2000000) only [vcA, ↓vcP, ↓reduceIte, reduceCtorEq, Nat.reduceAdd, Nat.reduceMul, Nat.reduceSub, Nat.reduceLT, Nat.reduceLeDiff, Nat.reduceEqDiff, Nat.reduceBEq, Nat.reduceBNe, Nat.reduceGT, Nat.reduceDiv, Nat.reduceMod, Int.reduceAdd, Int.reduceSub, Int.reduceNeg, Int.reduceLT, Int.reduceLE, Int.reduceEq, Int.reduceToNat, fA, ec, eN, eNw, pf1, pf2, shA, h2, rlA_ids, List.flatMap_nil, spR, a01, a02, a03]
        refine ⟨⟨by omega, by simp only [maxLen]; omega⟩, fun _ => ?_⟩
        refine hB _ ⟨i + 1, by omega⟩ [some 1152] (by simp only; omega) rfl ?_
        simp only [hSi, est]
        rw [hst]
        simp (maxSteps := 2000000) only [enA, ↓enP, Nat.reduceAdd, Nat.reduceMul, Nat.reduceSub, Nat.reduceLT, Nat.reduceLeDiff, Nat.reduceEqDiff, Nat.reduceBEq, ↓reduceIte, reduceCtorEq, fA, shA, rlA, e0, List.map_append, List.length_append]
        rfl
      replace c0 : leftI r' (wOf v) 0 ≥ (nth h.tk 0).2 := Decidable.not_not.1 c0
      have a01 : (leftI r' (wOf v) 0 ≥ (nth h.tk 0).2) = True := eq_true c0
      have a02 : ((nth h.tk 0).2 ≤ leftI r' (wOf v) 0) = True := eq_true c0
      have a03 : (leftI r' (wOf v) 0 < (nth h.tk 0).2) = False := eq_false (by omega)
      simp (maxSteps := 2000000) only [vcA, ↓vcP, ↓reduceIte, reduceCtorEq, Nat.reduceAdd, Nat.reduceMul, Nat.reduceSub, Nat.reduceLT, Nat.reduceLeDiff, Nat.reduceEqDiff, Nat.reduceBEq, Nat.reduceBNe, Nat.reduceGT, Nat.reduceDiv, Nat.reduceMod, Int.reduceAdd, Int.reduceSub, Int.reduceNeg, Int.reduceLT, Int.reduceLE, Int.reduceEq, Int.reduceToNat, fA, ec, eN, eNw, pf1, pf2, shA, h2, rlA_ids, List.flatMap_nil, spR, a01, a02, a03]
      refine ⟨by rw [rlA_len]; omega, fun _ => ?_⟩
      refine onF_data (left01_spec r' (wOf v) hw3 hbd) ?_ ?_
      · simp (maxSteps := 2000000) only [okA, ↓okP, Nat.reduceAdd, Nat.reduceMul, Nat.reduceSub, Nat.reduceLT, Nat.reduceLeDiff, Nat.reduceEqDiff, Nat.reduceBEq, ↓reduceIte, reduceCtorEq]
        exact rlA_low _ _ _ _
      by_cases c1 : ¬ leftI r' (wOf v) 1 ≥ (nth h.tk 1).2
      · have hst := hj.stop (fun g => c1 g.2.2)
        have a11 : (leftI r' (wOf v) 1 ≥ (nth h.tk 1).2) = False := eq_false c1
        have a12 : ((nth h.tk 1).2 ≤ leftI r' (wOf v) 1) = False := eq_false c1
        have a13 : (leftI r' (wOf v) 1 < (nth h.tk 1).2) = True := eq_true (by omega)
        simp (maxSteps := 2000000) only [vcA, ↓vcP, ↓reduceIte, reduceCtorEq, Nat.reduceAdd, Nat.reduceMul, Nat.reduceSub, Nat.reduceLT, Nat.reduceLeDiff, Nat.reduceEqDiff, Nat.reduceBEq, Nat.reduceBNe, Nat.reduceGT, Nat.reduceDiv, Nat.reduceMod, Int.reduceAdd, Int.reduceSub, Int.reduceNeg, Int.reduceLT, Int.reduceLE, Int.reduceEq, Int.reduceToNat, fA, ec, eN, eNw, pf1, pf2, shA, h2, rlA_ids, List.flatMap_nil, spR, a11, a12, a13]
        refine ⟨⟨by omega, by simp only [maxLen]; omega⟩, fun _ => ?_⟩
        refine hB _ ⟨i + 1, by omega⟩ [some 1152] (by simp only; omega) rfl ?_
        simp only [hSi, est]
        rw [hst]
        simp (maxSteps := 2000000) only [enA, ↓enP, Nat.reduceAdd, Nat.reduceMul, Nat.reduceSub, Nat.reduceLT, Nat.reduceLeDiff, Nat.reduceEqDiff, Nat.reduceBEq, ↓reduceIte, reduceCtorEq, fA, shA, rlA, e0, List.map_append, List.length_append]
        rfl
      replace c1 : leftI r' (wOf v) 1 ≥ (nth h.tk 1).2 := Decidable.not_not.1 c1
      have a11 : (leftI r' (wOf v) 1 ≥ (nth h.tk 1).2) = True := eq_true c1
      have a12 : ((nth h.tk 1).2 ≤ leftI r' (wOf v) 1) = True := eq_true c1
      have a13 : (leftI r' (wOf v) 1 < (nth h.tk 1).2) = False := eq_false (by omega)
      simp (maxSteps := 2000000) only [vcA, ↓vcP, ↓reduceIte, reduceCtorEq, Nat.reduceAdd, Nat.reduceMul, Nat.reduceSub, Nat.reduceLT, Nat.reduceLeDiff, Nat.reduceEqDiff, Nat.reduceBEq, Nat.reduceBNe, Nat.reduceGT, Nat.reduceDiv, Nat.reduceMod, Int.reduceAdd, Int.reduceSub, Int.reduceNeg, Int.reduceLT, Int.reduceLE, Int.reduceEq, Int.reduceToNat, fA, ec, eN, eNw, pf1, pf2, shA, h2, rlA_ids, List.flatMap_nil, spR, a11, a12, a13]
      obtain ⟨fK, hfK⟩ : ∃ fK, fK = fanK h l i (wOf v) r' f := ⟨_, rfl⟩
      have hK0 : fK 0 = r' := by rw [hfK]; rfl
      have hK2 : fK 2 = fanR h l i (wOf v) r' f := by rw [hfK]; exact fanK_two ..
      have hKat : ∀ k, k < 2 → fK k (12 + wOf v * 2 + k * 1) = r' (12 + wOf v * 2 + k * 1) := fun k hk => by rw [hfK]; exact fanK_at _ _ _ _ _ _ _ hk
      have hKs : ∀ k, fK (k + 1) = setI (fK k) (12 + wOf v * 2 + k * 1) (fK k (12 + wOf v * 2 + k * 1) + fanG (nth h.tk k) l (i + f + k)) := fun k => by rw [hfK]; rfl
      clear hfK
      refine goC_loop (α := {k : Nat // k ≤ 2}) (fun y => ⟨[(1, .sl 1 (l.map u8R)), (2, .ptr 8 0), (4, .ptr 16 0), (6, .ptr 32 0), (7, .ptr 456 0), (8, .ob 520 bk.length), (9, .ptr 488 0), (10, .v (.int .i64 i)), (11, .ptr 664 0), (12, .v (.int .i64 (wOf v))), (16, .v (.int .i64 f)), (17, .v (.int .i64 y.1))], [(8, .box 25 (shA x)), (16, .box 30 [.v (.int .i64 0), .v (.slice none 0 0), .v (.slice none 0 0)]), (32, .box 35 (rlA fun _ => 0)), (352, .row 47 2 (h.tk.map spR) false), (440, .row 3 1 (h.lo.map iR) false), (456, .box 30 [.v (.int .i64 h.sc), .ob 352 2, .ob 440 2]), (488, .box 35 (rlA (fK y.1))), (520, .row 60 4 (bk.map enR) false), (664, .box 70 [.v (.int .u8 v.a), .v (.int .u8 v.b), .v (.int .u8 v.c), .v (.int .u8 v.d)])]⟩) (fun y => 2 - y.1) ⟨0, by omega⟩ [] ?_ ?_
      · simp only [hK0]
        simp (maxSteps := 2000000) only [enA, ↓enP, Nat.reduceAdd, Nat.reduceMul, Nat.reduceSub, Nat.reduceLT, Nat.reduceLeDiff, Nat.reduceEqDiff, Nat.reduceBEq, ↓reduceIte, reduceCtorEq, fA, shA, rlA]
        rfl
      intro y B5 hB5
      obtain ⟨k, hkk⟩ := y
      simp only at hB5 ⊢
      have ef1 : IntKind.i64.wrap ((f : Int) + 1) = ((f + 1 : Nat) : Int) := wrap_id (by omega) (by omega)
      by_cases ck : ¬ k < 2
      · have k2 : k = 2 := by omega
        subst k2
        simp (maxSteps := 2000000) only [vcA, ↓vcP, ↓reduceIte, reduceCtorEq, Nat.reduceAdd, Nat.reduceMul, Nat.reduceSub, Nat.reduceLT, Nat.reduceLeDiff, Nat.reduceEqDiff, Nat.reduceBEq, Nat.reduceBNe, Nat.reduceGT, Nat.reduceDiv, Nat.reduceMod, Int.reduceAdd, Int.reduceSub, Int.reduceNeg, Int.reduceLT, Int.reduceLE, Int.reduceEq, Int.reduceToNat, fA]
        refine hB3 _ ⟨(f + 1, fanR h l i (wOf v) r' f), hj.step (fun s hs => by have := ht s hs; omega) cN c0 c1⟩ [] (by simp only; omega) rfl ?_
        simp only [hK2]
        simp (maxSteps := 2000000) only [enA, ↓enP, Nat.reduceAdd, Nat.reduceMul, Nat.reduceSub, Nat.reduceLT, Nat.reduceLeDiff, Nat.reduceEqDiff, Nat.reduceBEq, ↓reduceIte, reduceCtorEq, fA, shA, rlA, ef1]
      replace ck : k < 2 := Decidable.not_not.1 ck
      have pk1 : ((k : Int) < 2) = True := eq_true (by omega)
      have pk2 : ((2 : Int) ≤ k) = False := eq_false (by omega)
      have pl2 : (12 + wOf v * 2 + k * 1 + 1 ≤ (rlA (fK k)).length) = True := eq_true (by rw [rlA_len]; omega)
      have pg2 := rlA_get (fK k) (n := 12 + wOf v * 2 + k * 1) (by omega)
      rw [hKat k ck] at pg2
      have ek : IntKind.i64.wrap ((k : Int) + 1) = ((k + 1 : Nat) : Int) := wrap_id (by omega) (by omega)
      have ei1 : IntKind.i64.wrap ((i : Int) + f) = ((i + f : Nat) : Int) := wrap_id (by omega) (by omega)
      have ei2 : IntKind.i64.wrap (((i + f : Nat) : Int) + k) = ((i + f + k : Nat) : Int) := wrap_id (by omega) (by omega)
      simp (maxSteps := 2000000) only [vcA, ↓vcP, ↓reduceIte, reduceCtorEq, Nat.reduceAdd, Nat.reduceMul, Nat.reduceSub, Nat.reduceLT, Nat.reduceLeDiff, Nat.reduceEqDiff, Nat.reduceBEq, Nat.reduceBNe, Nat.reduceGT, Nat.reduceDiv, Nat.reduceMod, Int.reduceAdd, Int.reduceSub, Int.reduceNeg, Int.reduceLT, Int.reduceLE, Int.reduceEq, Int.reduceToNat, fA, pk1, pk2, h2, pw, pl2, pg2, spR, ei1, ei2]
      refine ⟨ck, fun _ => ?_⟩
      refine onF_data (byteOf_spec l (i + f + k) hl (by omega)) ?_ ?_
      · simp (maxSteps := 2000000) only [okA, ↓okP, Nat.reduceAdd, Nat.reduceMul, Nat.reduceSub, Nat.reduceLT, Nat.reduceLeDiff, Nat.reduceEqDiff, Nat.reduceBEq, ↓reduceIte, reduceCtorEq]
      have htk := ht k ck
      have hby := byteI_bd hl ((i + f + k : Nat) : Int)
      have hm0 := Int.emod_nonneg (byteI l ((i + f + k : Nat) : Int)) (b := (nth h.tk k).2 - (nth h.tk k).1 + 1) (by omega)
      have hm1 := Int.emod_lt_of_pos (byteI l ((i + f + k : Nat) : Int)) (b := (nth h.tk k).2 - (nth h.tk k).1 + 1) (by omega)
      have ww1 : IntKind.i64.wrap ((nth h.tk k).2 - (nth h.tk k).1) = (nth h.tk k).2 - (nth h.tk k).1 := wrap_id (by omega) (by omega)
      have ww2 : IntKind.i64.wrap ((nth h.tk k).2 - (nth h.tk k).1 + 1) = (nth h.tk k).2 - (nth h.tk k).1 + 1 := wrap_id (by omega) (by omega)
      have ww3 : (byteI l ((i + f + k : Nat) : Int)).tmod ((nth h.tk k).2 - (nth h.tk k).1 + 1) = byteI l ((i + f + k : Nat) : Int) % ((nth h.tk k).2 - (nth h.tk k).1 + 1) := Int.tmod_eq_emod_of_nonneg (by omega)
      have ww4 : IntKind.i64.wrap (byteI l ((i + f + k : Nat) : Int) % ((nth h.tk k).2 - (nth h.tk k).1 + 1)) = byteI l ((i + f + k : Nat) : Int) % ((nth h.tk k).2 - (nth h.tk k).1 + 1) := wrap_id (by omega) (by omega)
      have ww5 : IntKind.i64.wrap ((nth h.tk k).1 + byteI l ((i + f + k : Nat) : Int) % ((nth h.tk k).2 - (nth h.tk k).1 + 1)) = fanG (nth h.tk k) l (i + f + k) := wrap_id (by omega) (by omega)
      have hr0 := hbd (12 + wOf v * 2 + k * 1)
      have hfg := fanG_bd htk.2.1 l (i + f + k)
      have ww6 : IntKind.i64.wrap (r' (12 + wOf v * 2 + k * 1) + fanG (nth h.tk k) l (i + f + k)) = r' (12 + wOf v * 2 + k * 1) + fanG (nth h.tk k) l (i + f + k) := wrap_id (by omega) (by omega)
      have hz : ((nth h.tk k).2 - (nth h.tk k).1 + 1 = 0) = False := eq_false (by omega)
      have hz2 : ((nth h.tk k).2 - (nth h.tk k).1 + 1 ≠ 0) = True := eq_true (by omega)
      simp (maxSteps := 2000000) only [vcA, ↓vcP, ↓reduceIte, reduceCtorEq, Nat.reduceAdd, Nat.reduceMul, Nat.reduceSub, Nat.reduceLT, Nat.reduceLeDiff, Nat.reduceEqDiff, Nat.reduceBEq, Nat.reduceBNe, Nat.reduceGT, Nat.reduceDiv, Nat.reduceMod, Int.reduceAdd, Int.reduceSub, Int.reduceNeg, Int.reduceLT, Int.reduceLE, Int.reduceEq, Int.reduceToNat, fA, pk1, pk2, h2, pw, pl2, pg2, spR, ei1, ei2, ww1, ww2, ww3, ww4, ww5, ww6, hz, hz2]
      rw [rlA_put (fK k) (by omega)]
      repeat (first | refine ⟨by kernel_rfl, ?_⟩ | refine ⟨⟨by kernel_rfl, by kernel_rfl⟩, ?_⟩ | refine ⟨⟨by kernel_rfl, by kernel_rfl, by kernel_rfl⟩, ?_⟩ | refine ⟨⟨by kernel_rfl, by kernel_rfl, by kernel_rfl, by kernel_rfl⟩, ?_⟩ | refine ⟨⟨by kernel_rfl, by kernel_rfl, by kernel_rfl, by kernel_rfl, by kernel_rfl⟩, ?_⟩ | refine ⟨⟨by kernel_rfl, by kernel_rfl, by kernel_rfl, by kernel_rfl, by kernel_rfl, by kernel_rfl⟩, ?_⟩ | refine ⟨⟨by kernel_rfl, by kernel_rfl, by kernel_rfl, by kernel_rfl, by kernel_rfl, by kernel_rfl, by kernel_rfl⟩, ?_⟩ | refine ⟨⟨by kernel_rfl, by kernel_rfl, by kernel_rfl, by kernel_rfl, by kernel_rfl, by kernel_rfl, by kernel_rfl, by kernel_rfl⟩, ?_⟩ | refine ⟨⟨by kernel_rfl, by kernel_rfl, by kernel_rfl, by kernel_rfl, by kernel_rfl, by kernel_rfl, by kernel_rfl, by kernel_rfl, by kernel_rfl⟩, ?_⟩ | refine ⟨⟨by kernel_rfl, by kernel_rfl, by kernel_rfl, by kernel_rfl, by kernel_rfl, by kernel_rfl, by kernel_rfl, by kernel_rfl, by kernel_rfl, by kernel_rfl⟩, ?_⟩ | refine ⟨⟨by kernel_rfl, by kernel_rfl, by kernel_rfl, by kernel_rfl, by kernel_rfl, by kernel_rfl, by kernel_rfl, by kernel_rfl, by kernel_rfl, by kernel_rfl, by kernel_rfl⟩, ?_⟩ | refine ⟨⟨by kernel_rfl, by kernel_rfl, by kernel_rfl, by kernel_rfl, by kernel_rfl, by kernel_rfl, by kernel_rfl, by kernel_rfl, by kernel_rfl, by kernel_rfl, by kernel_rfl, by kernel_rfl⟩, ?_⟩ | refine ⟨⟨by kernel_rfl, by kernel_rfl, by kernel_rfl, by kernel_rfl, by kernel_rfl, by kernel_rfl, by kernel_rfl, by kernel_rfl, by kernel_rfl, by kernel_rfl, by kernel_rfl, by kernel_rfl, by kernel_rfl⟩, ?_⟩)
      refine hB5 _ ⟨k + 1, by omega⟩ [] (by simp only; omega) rfl ?_
      simp only [hKs, hKat k ck]
      simp (maxSteps := 2000000) only [enA, ↓enP, Nat.reduceAdd, Nat.reduceMul, Nat.reduceSub, Nat.reduceLT, Nat.reduceLeDiff, Nat.reduceEqDiff, Nat.reduceBEq, ↓reduceIte, reduceCtorEq, fA, shA, rlA, ek]
  · have hnn : i = numX x := by omega
    subst hnn
    have p0 : ((numX x : Int) < x.ls.length ∧ (numX x : Int) < 10) = False := by unfold numX; apply eq_false; omega
    rw [← hh0] at hh
    have hlb := fun n hn => lostS_bd hk h2 hl tr hnum (n := n) hn
    have hbl := tr.len
    simp only at hbl hlb
    have p5 : (numX x < x.ls.length) = False ∨ ((numX x < x.ls.length) = True ∧ ((numX x : Int) < 10) = False) := by
      unfold numX
      rcases Nat.lt_or_ge x.ls.length 11 with g | g
      · exact .inl (eq_false (by omega))
      · exact .inr ⟨eq_true (by omega), eq_false (by omega)⟩
    clear hB
    obtain ⟨L, hL⟩ : ∃ L, L = lostS h l r := ⟨_, rfl⟩
    have hLs : ∀ n, L (n + 1) = setI (L n) (18 + n) (lostG h l (L n) (n / 2) (n % 2)) := fun n => by rw [hL]; rfl
    have hL0 : L 0 = r := by rw [hL]; rfl
    have hL6 : L 6 = realX x l := by rw [hL]; unfold realX; rw [← hh0, hst0]
    have hbk : bookX x l = bk := by unfold bookX; rw [hst0]
    have hlf : ∀ w s : Nat, w < 3 → s < 2 → 0 ≤ leftI (L (2 * w + s)) w s := fun w s hw hs => by rw [hL]; exact lostS_left hk h2 hl tr hw hs
    rw [← hL] at hlb
    clear hL
    rcases p5 with p4 | ⟨p4, p3⟩
    case' inl => simp (maxSteps := 2000000) only [vcA, ↓vcP, ↓reduceIte, reduceCtorEq, Nat.reduceAdd, Nat.reduceMul, Nat.reduceSub, Nat.reduceLT, Nat.reduceLeDiff, Nat.reduceEqDiff, Nat.reduceBEq, Nat.reduceBNe, Nat.reduceGT, Nat.reduceDiv, Nat.reduceMod, Int.reduceAdd, Int.reduceSub, Int.reduceNeg, Int.reduceLT, Int.reduceLE, Int.reduceEq, Int.reduceToNat, fA, p4, shA]
    case' inr => simp (maxSteps := 2000000) only [vcA, ↓vcP, ↓reduceIte, reduceCtorEq, Nat.reduceAdd, Nat.reduceMul, Nat.reduceSub, Nat.reduceLT, Nat.reduceLeDiff, Nat.reduceEqDiff, Nat.reduceBEq, Nat.reduceBNe, Nat.reduceGT, Nat.reduceDiv, Nat.reduceMod, Int.reduceAdd, Int.reduceSub, Int.reduceNeg, Int.reduceLT, Int.reduceLE, Int.reduceEq, Int.reduceToNat, fA, p3, p4, shA]
    all_goals
      refine goC_loop (α := {w : Nat // w ≤ 3}) (fun y => ⟨[(1, .sl 1 (l.map u8R)), (2, .ptr 8 0), (4, .ptr 16 0), (6, .ptr 32 0), (7, .ptr 456 0), (8, .ob 520 bk.length), (9, .ptr 488 0), (19, .v (.int .i64 y.1))], [(8, .box 25 (shA x)), (16, .box 30 [.v (.int .i64 0), .v (.slice none 0 0), .v (.slice none 0 0)]), (32, .box 35 (rlA fun _ => 0)), (352, .row 47 2 (h.tk.map spR) false), (440, .row 3 1 (h.lo.map iR) false), (456, .box 30 [.v (.int .i64 h.sc), .ob 352 2, .ob 440 2]), (488, .box 35 (rlA (L (2 * y.1)))), (520, .row 60 4 (bk.map enR) false)]⟩) (fun y => 3 - y.1) ⟨0, by omega⟩ [] ?_ ?_
      · simp only [Nat.mul_zero, hL0]
        simp (maxSteps := 2000000) only [enA, ↓enP, Nat.reduceAdd, Nat.reduceMul, Nat.reduceSub, Nat.reduceLT, Nat.reduceLeDiff, Nat.reduceEqDiff, Nat.reduceBEq, ↓reduceIte, reduceCtorEq, fA, shA, rlA]
        rfl
      intro y B7 hB7
      obtain ⟨w, hw⟩ := y
      simp only at hB7 ⊢
      by_cases cw : ¬ w < 3
      · have w3 : w = 3 := by omega
        subst w3
        simp (maxSteps := 2000000) only [vcA, ↓vcP, ↓reduceIte, reduceCtorEq, Nat.reduceAdd, Nat.reduceMul, Nat.reduceSub, Nat.reduceLT, Nat.reduceLeDiff, Nat.reduceEqDiff, Nat.reduceBEq, Nat.reduceBNe, Nat.reduceGT, Nat.reduceDiv, Nat.reduceMod, Int.reduceAdd, Int.reduceSub, Int.reduceNeg, Int.reduceLT, Int.reduceLE, Int.reduceEq, Int.reduceToNat, fA, rlA_ids]
        refine ⟨by rw [rlA_len]; omega, fun _ => ⟨⟨rfl, by rw [rlA_len]; omega⟩, fun _ => ?_⟩⟩
        rw [rlA_all, hL6]
        refine hR _ (fin_of1 [some 352, some 440, some 520] ?_)
        rw [hbk]
        unfold rlA
        simp (maxSteps := 2000000) only [enA, ↓enP, Nat.reduceAdd, Nat.reduceMul, Nat.reduceSub, Nat.reduceLT, Nat.reduceLeDiff, Nat.reduceEqDiff, Nat.reduceBEq, ↓reduceIte, reduceCtorEq, fA]
        rw [hh0]
        exact ⟨rfl, rfl, rfl⟩
      replace cw : w < 3 := Decidable.not_not.1 cw
      have pw1 : ((w : Int) < 3) = True := eq_true (by omega)
      have pw2 : ((3 : Int) ≤ w) = False := eq_false (by omega)
      have ew : IntKind.i64.wrap ((w : Int) + 1) = ((w + 1 : Nat) : Int) := wrap_id (by omega) (by omega)
      simp (maxSteps := 2000000) only [vcA, ↓vcP, ↓reduceIte, reduceCtorEq, Nat.reduceAdd, Nat.reduceMul, Nat.reduceSub, Nat.reduceLT, Nat.reduceLeDiff, Nat.reduceEqDiff, Nat.reduceBEq, Nat.reduceBNe, Nat.reduceGT, Nat.reduceDiv, Nat.reduceMod, Int.reduceAdd, Int.reduceSub, Int.reduceNeg, Int.reduceLT, Int.reduceLE, Int.reduceEq, Int.reduceToNat, fA, pw1, pw2]
      refine goC_loop (α := {s : Nat // s ≤ 2}) (fun y => ⟨[(1, .sl 1 (l.map u8R)), (2, .ptr 8 0), (4, .ptr 16 0), (6, .ptr 32 0), (7, .ptr 456 0), (8, .ob 520 bk.length), (9, .ptr 488 0), (19, .v (.int .i64 w)), (20, .v (.int .i64 y.1))], [(8, .box 25 (shA x)), (16, .box 30 [.v (.int .i64 0), .v (.slice none 0 0), .v (.slice none 0 0)]), (32, .box 35 (rlA fun _ => 0)), (352, .row 47 2 (h.tk.map spR) false), (440, .row 3 1 (h.lo.map iR) false), (456, .box 30 [.v (.int .i64 h.sc), .ob 352 2, .ob 440 2]), (488, .box 35 (rlA (L (2 * w + y.1)))), (520, .row 60 4 (bk.map enR) false)]⟩) (fun y => 2 - y.1) ⟨0, by omega⟩ [] ?_ ?_
      · simp only [Nat.add_zero]
        simp (maxSteps := 2000000) only [enA, ↓enP, Nat.reduceAdd, Nat.reduceMul, Nat.reduceSub, Nat.reduceLT, Nat.reduceLeDiff, Nat.reduceEqDiff, Nat.reduceBEq, ↓reduceIte, reduceCtorEq, fA, shA, rlA]
        rfl
      intro y B9 hB9
      obtain ⟨s, hs⟩ := y
      simp only at hB9 ⊢
      by_cases cs : ¬ s < 2
      · have s2 : s = 2 := by omega
        subst s2
        simp (maxSteps := 2000000) only [vcA, ↓vcP, ↓reduceIte, reduceCtorEq, Nat.reduceAdd, Nat.reduceMul, Nat.reduceSub, Nat.reduceLT, Nat.reduceLeDiff, Nat.reduceEqDiff, Nat.reduceBEq, Nat.reduceBNe, Nat.reduceGT, Nat.reduceDiv, Nat.reduceMod, Int.reduceAdd, Int.reduceSub, Int.reduceNeg, Int.reduceLT, Int.reduceLE, Int.reduceEq, Int.reduceToNat, fA, ew]
        refine hB7 _ ⟨w + 1, by omega⟩ [] (by simp only; omega) rfl ?_
        rw [show 2 * (w + 1) = 2 * w + 2 by omega]
        simp (maxSteps := 2000000) only [enA, ↓enP, Nat.reduceAdd, Nat.reduceMul, Nat.reduceSub, Nat.reduceLT, Nat.reduceLeDiff, Nat.reduceEqDiff, Nat.reduceBEq, ↓reduceIte, reduceCtorEq, fA, shA, rlA]
      replace cs : s < 2 := Decidable.not_not.1 cs
      have ps1 : ((s : Int) < 2) = True := eq_true (by omega)
      have ps2 : ((2 : Int) ≤ s) = False := eq_false (by omega)
      have es : IntKind.i64.wrap ((s : Int) + 1) = ((s + 1 : Nat) : Int) := wrap_id (by omega) (by omega)
      obtain ⟨R', hR'⟩ : ∃ R', R' = L (2 * w + s) := ⟨_, rfl⟩
      have hRb : R'.Bd := by rw [hR']; exact hlb _ (by omega)
      simp only [← hR']
      simp (maxSteps := 2000000) only [vcA, ↓vcP, ↓reduceIte, reduceCtorEq, Nat.reduceAdd, Nat.reduceMul, Nat.reduceSub, Nat.reduceLT, Nat.reduceLeDiff, Nat.reduceEqDiff, Nat.reduceBEq, Nat.reduceBNe, Nat.reduceGT, Nat.reduceDiv, Nat.reduceMod, Int.reduceAdd, Int.reduceSub, Int.reduceNeg, Int.reduceLT, Int.reduceLE, Int.reduceEq, Int.reduceToNat, fA, ps1, ps2]
      refine ⟨by rw [rlA_len]; omega, fun _ => ?_⟩
      refine onF_data (left0_spec R' w s cw cs hRb) ?_ ?_
      · simp (maxSteps := 2000000) only [okA, ↓okP, Nat.reduceAdd, Nat.reduceMul, Nat.reduceSub, Nat.reduceLT, Nat.reduceLeDiff, Nat.reduceEqDiff, Nat.reduceBEq, ↓reduceIte, reduceCtorEq]
        exact rlA_low _ _ _ _
      have pl4 : (w * 2 + s * 1 + 1 ≤ (rlA R').length) = True := eq_true (by rw [rlA_len]; omega)
      have pg4 := rlA_get R' (n := w * 2 + s * 1) (by omega)
      have ews : IntKind.i64.wrap ((w : Int) + s) = ((w + s : Nat) : Int) := wrap_id (by omega) (by omega)
      have hlo := hk.los _ (nth_mem (l := h.lo) (i := s) (by omega))
      have hO := hRb (w * 2 + s * 1)
      have o1 := Int.mul_nonneg hO.1 hlo.1
      have o2 := Int.mul_le_mul hO.2 hlo.2 hlo.1 (show (0 : Int) ≤ 10000000 by omega)
      have wo1 : IntKind.i64.wrap (R' (w * 2 + s * 1) * nth h.lo s) = R' (w * 2 + s * 1) * nth h.lo s := wrap_id (by omega) (by omega)
      have wo2 : (R' (w * 2 + s * 1) * nth h.lo s).tdiv 1000 = R' (w * 2 + s * 1) * nth h.lo s / 1000 := quo_of (by omega)
      have wo3 : IntKind.i64.wrap (R' (w * 2 + s * 1) * nth h.lo s / 1000) = R' (w * 2 + s * 1) * nth h.lo s / 1000 := wrap_id (by omega) (by omega)
      simp (maxSteps := 2000000) only [vcA, ↓vcP, ↓reduceIte, reduceCtorEq, Nat.reduceAdd, Nat.reduceMul, Nat.reduceSub, Nat.reduceLT, Nat.reduceLeDiff, Nat.reduceEqDiff, Nat.reduceBEq, Nat.reduceBNe, Nat.reduceGT, Nat.reduceDiv, Nat.reduceMod, Int.reduceAdd, Int.reduceSub, Int.reduceNeg, Int.reduceLT, Int.reduceLE, Int.reduceEq, Int.reduceToNat, fA, ps1, ps2, pw1, pw2, pl4, pg4, rlA_ids, List.flatMap_nil, h3, iR, ews, wo1, wo2, wo3]
      refine ⟨cs, fun _ => ?_⟩
      refine onF_data (byteOf_spec l (w + s) hl (by omega)) ?_ ?_
      · simp (maxSteps := 2000000) only [okA, ↓okP, Nat.reduceAdd, Nat.reduceMul, Nat.reduceSub, Nat.reduceLT, Nat.reduceLeDiff, Nat.reduceEqDiff, Nat.reduceBEq, ↓reduceIte, reduceCtorEq]
      have hby := byteI_bd hl ((w + s : Nat) : Int)
      simp (maxSteps := 2000000) only [vcA, ↓vcP, ↓reduceIte, reduceCtorEq, Nat.reduceAdd, Nat.reduceMul, Nat.reduceSub, Nat.reduceLT, Nat.reduceLeDiff, Nat.reduceEqDiff, Nat.reduceBEq, Nat.reduceBNe, Nat.reduceGT, Nat.reduceDiv, Nat.reduceMod, Int.reduceAdd, Int.reduceSub, Int.reduceNeg, Int.reduceLT, Int.reduceLE, Int.reduceEq, Int.reduceToNat, fA, ps1, ps2, pw1, pw2, rlA_ids, List.flatMap_nil, h3, iR]
      refine ⟨by rw [rlA_len]; omega, fun _ => ?_⟩
      rw [rlA_put R' (by omega)]
      have hA : 0 ≤ leftI R' w s := by rw [hR']; exact hlf w s cw cs
      have hA2 : leftI R' w s ≤ 10000000 := by
        have a0 := hRb (2 * w + s)
        have a1 := hRb (6 + 2 * w + s)
        have a2 := hRb (12 + 2 * w + s)
        have a3 := hRb (18 + 2 * w + s)
        unfold leftI
        omega
      have hB0 : 0 ≤ R' (w * 2 + s * 1) * nth h.lo s / 1000 := Int.ediv_nonneg o1 (by omega)
      have eG : IntKind.i64.wrap ((IntKind.i64.wrap (min (leftI R' w s) (R' (w * 2 + s * 1) * nth h.lo s / 1000) * byteI l ((w + s : Nat) : Int))).tdiv 255) = lostG h l R' w s := by
        unfold lostG
        rw [show 2 * w + s = w * 2 + s * 1 by omega]
        generalize R' (w * 2 + s * 1) * nth h.lo s / 1000 = X at *
        generalize leftI R' w s = A at *
        generalize byteI l ((w + s : Nat) : Int) = C at *
        have m1 := Int.mul_nonneg (show 0 ≤ min A X by omega) hby.1
        have m2 := Int.mul_le_mul (show min A X ≤ 10000000 by omega) (show C ≤ 255 by omega) hby.1 (show (0 : Int) ≤ 10000000 by omega)
        have v1 : IntKind.i64.wrap (min A X * C) = min A X * C := wrap_id (by omega) (by omega)
        have v2 : (min A X * C).tdiv 255 = min A X * C / 255 := quo_of (by omega)
        rw [v1, v2]
        exact wrap_id (by omega) (by omega)
      rw [eG]
      repeat (first | refine ⟨by kernel_rfl, ?_⟩ | refine ⟨⟨by kernel_rfl, by kernel_rfl⟩, ?_⟩ | refine ⟨⟨by kernel_rfl, by kernel_rfl, by kernel_rfl⟩, ?_⟩ | refine ⟨⟨by kernel_rfl, by kernel_rfl, by kernel_rfl, by kernel_rfl⟩, ?_⟩ | refine ⟨⟨by kernel_rfl, by kernel_rfl, by kernel_rfl, by kernel_rfl, by kernel_rfl⟩, ?_⟩ | refine ⟨⟨by kernel_rfl, by kernel_rfl, by kernel_rfl, by kernel_rfl, by kernel_rfl, by kernel_rfl⟩, ?_⟩ | refine ⟨⟨by kernel_rfl, by kernel_rfl, by kernel_rfl, by kernel_rfl, by kernel_rfl, by kernel_rfl, by kernel_rfl⟩, ?_⟩ | refine ⟨⟨by kernel_rfl, by kernel_rfl, by kernel_rfl, by kernel_rfl, by kernel_rfl, by kernel_rfl, by kernel_rfl, by kernel_rfl⟩, ?_⟩ | refine ⟨⟨by kernel_rfl, by kernel_rfl, by kernel_rfl, by kernel_rfl, by kernel_rfl, by kernel_rfl, by kernel_rfl, by kernel_rfl, by kernel_rfl⟩, ?_⟩ | refine ⟨⟨by kernel_rfl, by kernel_rfl, by kernel_rfl, by kernel_rfl, by kernel_rfl, by kernel_rfl, by kernel_rfl, by kernel_rfl, by kernel_rfl, by kernel_rfl⟩, ?_⟩ | refine ⟨⟨by kernel_rfl, by kernel_rfl, by kernel_rfl, by kernel_rfl, by kernel_rfl, by kernel_rfl, by kernel_rfl, by kernel_rfl, by kernel_rfl, by kernel_rfl, by kernel_rfl⟩, ?_⟩ | refine ⟨⟨by kernel_rfl, by kernel_rfl, by kernel_rfl, by kernel_rfl, by kernel_rfl, by kernel_rfl, by kernel_rfl, by kernel_rfl, by kernel_rfl, by kernel_rfl, by kernel_rfl, by kernel_rfl⟩, ?_⟩ | refine ⟨⟨by kernel_rfl, by kernel_rfl, by kernel_rfl, by kernel_rfl, by kernel_rfl, by kernel_rfl, by kernel_rfl, by kernel_rfl, by kernel_rfl, by kernel_rfl, by kernel_rfl, by kernel_rfl, by kernel_rfl⟩, ?_⟩)
      refine hB9 _ ⟨s + 1, by omega⟩ [] (by simp only; omega) rfl ?_
      have eL : L (2 * w + (s + 1)) = setI R' (18 + w * 2 + s * 1) (lostG h l R' w s) := by
        rw [← Nat.add_assoc, hLs, ← hR', show 18 + (2 * w + s) = 18 + w * 2 + s * 1 by omega, show (2 * w + s) / 2 = w by omega, show (2 * w + s) % 2 = s by omega]
      simp only [eL]
      simp (maxSteps := 2000000) only [enA, ↓enP, Nat.reduceAdd, Nat.reduceMul, Nat.reduceSub, Nat.reduceLT, Nat.reduceLeDiff, Nat.reduceEqDiff, Nat.reduceBEq, ↓reduceIte, reduceCtorEq, fA, shA, rlA, es]
end Go.Proofs.Ytninkfpeeemcoaa.Ab.T07
