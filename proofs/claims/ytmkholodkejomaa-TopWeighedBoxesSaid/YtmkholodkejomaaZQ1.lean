/- The boxes of carriers: sums, carts; their contracts. -/
import Derived.Test.YtmkholodkejomaaZU1
namespace Go.Proofs.Ytmkholodkejomaa.Ab.T08
open Go Go.RowKit
set_option linter.unusedVariables false
set_option linter.unusedSimpArgs false
set_option maxRecDepth 100000
abbrev Sp := Int × Int
def spR (s : Sp) : List DV := [.v (.int .i64 s.1), .v (.int .i64 s.2)]
def boxR (h : List Sp) : List DV := [.sl 2 (h.map spR)]
structure Bi where
  n : Int
  h : List Sp
instance : Inhabited Bi := ⟨⟨0, []⟩⟩
def biR (b : Bi) : List DV := [.v (.int .i64 b.n), .sl 2 (b.h.map spR)]
structure Ld where
  boxes : List (List Sp)
  bills : List Bi
structure Ld.Ok (l : Ld) (K : Nat) : Prop where
  nb : l.boxes.length ≤ 8
  nc : 1 ≤ l.bills.length ∧ l.bills.length ≤ 3
  k : 1 ≤ K ∧ K ≤ 3
  bk : ∀ h ∈ l.boxes, h.length = K
  ck : ∀ b ∈ l.bills, b.h.length = K
  bs : ∀ h ∈ l.boxes, ∀ s ∈ h, 0 ≤ s.1 ∧ s.1 ≤ s.2 ∧ s.2 ≤ 1000
  cs : ∀ b ∈ l.bills, ∀ s ∈ b.h, 0 ≤ s.1 ∧ s.1 ≤ s.2 ∧ s.2 ≤ 10000
  cn : ∀ b ∈ l.bills, 0 ≤ b.n ∧ b.n ≤ 8
def smA (S : Nat → Int) : List AV := [.v (.int .i64 (S 0)), .v (.int .i64 (S 1)), .v (.int .i64 (S 2)), .v (.int .i64 (S 3)), .v (.int .i64 (S 4)), .v (.int .i64 (S 5))]
def ctA (X : Nat → Int) : List AV := [.v (.int .i64 (X 0)), .v (.int .i64 (X 1)), .v (.int .i64 (X 2)), .v (.int .i64 (X 3)), .v (.int .i64 (X 4)), .v (.int .i64 (X 5)), .v (.int .i64 (X 6))]
def caA (C : Nat → Int) : List AV := [.v (.int .i64 (C 0)), .v (.int .i64 (C 1)), .v (.int .i64 (C 2)), .v (.int .i64 (C 3)), .v (.int .i64 (C 4)), .v (.int .i64 (C 5)), .v (.int .i64 (C 6)), .v (.int .i64 (C 7)), .v (.int .i64 (C 8)), .v (.int .i64 (C 9)), .v (.int .i64 (C 10)), .v (.int .i64 (C 11)), .v (.int .i64 (C 12)), .v (.int .i64 (C 13)), .v (.int .i64 (C 14)), .v (.int .i64 (C 15)), .v (.int .i64 (C 16)), .v (.int .i64 (C 17)), .v (.int .i64 (C 18)), .v (.int .i64 (C 19)), .v (.int .i64 (C 20))]
theorem smA_len (S : Nat → Int) : (smA S).length = 6 := rfl
theorem ctA_len (X : Nat → Int) : (ctA X).length = 7 := rfl
theorem caA_len (C : Nat → Int) : (caA C).length = 21 := rfl
theorem smA_tk (S : Nat → Int) : List.take 6 (smA S) = smA S := rfl
theorem caA_tk (S : Nat → Int) : List.take 21 (caA S) = caA S := rfl
theorem smA_eqr (ρ : Nat → Option (Option Nat)) (S : Nat → Int) : eqrL (eqr1 ρ) (smA S) (smA S) = True := eq_true (by simp [smA, eqrL, eqr1, eqr0])
theorem ctA_eqr (ρ : Nat → Option (Option Nat)) (S : Nat → Int) : eqrL (eqr1 ρ) (ctA S) (ctA S) = True := eq_true (by simp [ctA, eqrL, eqr1, eqr0])
theorem caA_eqr (ρ : Nat → Option (Option Nat)) (S : Nat → Int) : eqrL (eqr1 ρ) (caA S) (caA S) = True := eq_true (by simp [caA, eqrL, eqr1, eqr0])
/-- What a box adds: its count, its sums. -/
def addB (h : List Sp) (f : Nat) : Int := if f = 0 then 1 else if (f - 1) / 2 < h.length then (if f % 2 = 1 then (nth h ((f - 1) / 2)).1 else (nth h ((f - 1) / 2)).2) else 0
/-- Sums with the first k stuffs of a box more. -/
def plusS (S : Nat → Int) (h : List Sp) (k : Nat) : Nat → Int := fun f => S f + if f / 2 < k then addB h (f + 1) else 0
theorem sm_low (S : Nat → Int) {k : Nat} (h : k < 3) : (List.take 1 (List.drop (k * 2) (smA S))).headD .un = .v (.int .i64 (S (k * 2))) := by
  rcases (by omega : k = 0 ∨ k = 1 ∨ k = 2) with rfl | rfl | rfl <;> rfl
theorem sm_high (S : Nat → Int) {k : Nat} (h : k < 3) : (List.take 1 (List.drop (k * 2 + 1) (smA S))).headD .un = .v (.int .i64 (S (k * 2 + 1))) := by
  rcases (by omega : k = 0 ∨ k = 1 ∨ k = 2) with rfl | rfl | rfl <;> rfl
theorem sm_put (S : Nat → Int) {k : Nat} (h : k < 3) (a b : Int) : put (smA S) (k * 2) [.v (.int .i64 a), .v (.int .i64 b)] = smA (fun f => if f = k * 2 then a else if f = k * 2 + 1 then b else S f) := by
  rcases (by omega : k = 0 ∨ k = 1 ∨ k = 2) with rfl | rfl | rfl <;> rfl
theorem plusS_step {S : Nat → Int} {h : List Sp} {k : Nat} (hk : k < h.length) (a b : Int) (ha : a = S (k * 2) + (nth h k).1) (hb : b = S (k * 2 + 1) + (nth h k).2) : smA (fun f => if f = k * 2 then a else if f = k * 2 + 1 then b else plusS S h k f) = smA (plusS S h (k + 1)) := by
  have e : ∀ f, (if f = k * 2 then a else if f = k * 2 + 1 then b else plusS S h k f) = plusS S h (k + 1) f := fun f => by
    unfold plusS addB
    by_cases c1 : f = k * 2
    · rw [if_pos c1, if_pos (show f / 2 < k + 1 by omega), if_neg (show ¬ f + 1 = 0 by omega), c1, show (k * 2 + 1 - 1) / 2 = k by omega, if_pos hk, if_pos (show (k * 2 + 1) % 2 = 1 by omega), ha]
    · rw [if_neg c1]
      by_cases c2 : f = k * 2 + 1
      · rw [if_pos c2, if_pos (show f / 2 < k + 1 by omega), if_neg (show ¬ f + 1 = 0 by omega), c2, show (k * 2 + 1 + 1 - 1) / 2 = k by omega, if_pos hk, if_neg (show ¬ (k * 2 + 1 + 1) % 2 = 1 by omega), hb]
      · rw [if_neg c2]
        by_cases c3 : f / 2 < k
        · rw [if_pos c3, if_pos (show f / 2 < k + 1 by omega)]
        · rw [if_neg c3, if_neg (show ¬ f / 2 < k + 1 by omega)]
  have : (fun f => if f = k * 2 then a else if f = k * 2 + 1 then b else plusS S h k f) = plusS S h (k + 1) := funext e
  rw [this]
theorem plusS_zero (S : Nat → Int) (h : List Sp) : plusS S h 0 = S := by
  funext f
  unfold plusS
  rw [if_neg (by omega)]
  omega
theorem plusS_at {S : Nat → Int} {h : List Sp} {k f : Nat} (hf : k ≤ f / 2) : plusS S h k f = S f := by
  unfold plusS
  rw [if_neg (by omega)]
  omega
def SmBd (S : Nat → Int) : Prop := ∀ f, -1000000 ≤ S f ∧ S f ≤ 1000000
set_option maxHeartbeats 2000000 in
theorem plus_spec (S : Nat → Int) (hS : SmBd S) (h : List Sp) (hh : h.length ≤ 3) (hb : ∀ s ∈ h, (0 ≤ s.1 ∧ s.1 ≤ 1000) ∧ 0 ≤ s.2 ∧ s.2 ≤ 1000) : SpecF Try.prog 26 [.agg (smA S), .sl 2 (h.map spR)] (.agg (smA (plusS S h h.length))) [] := by
  refine spec_go (N := 33) (rs := [.cell 4 88]) (eq := eqs) rfl rfl fun_26 rfl (by kernel_rfl) (by kernel_rfl) (by simp) (by simp) (by simp) (by simp) fun R hR => ?_
  simp (maxSteps := 2000000) only [vcA, ↓vcP, ↓reduceIte, reduceCtorEq, Nat.reduceAdd, Nat.reduceMul, Nat.reduceSub, Nat.reduceLT, Nat.reduceLeDiff, Nat.reduceEqDiff, Nat.reduceBEq, Nat.reduceBNe, Nat.reduceGT, Nat.reduceDiv, Nat.reduceMod, Int.reduceAdd, Int.reduceSub, Int.reduceNeg, Int.reduceLT, Int.reduceLE, Int.reduceEq, Int.reduceToNat, fA]
  refine goC_loop (α := {k : Nat // k ≤ h.length}) (fun y => ⟨[(2, .ptr 8 0), (4, .ptr 16 0), (7, .sl 2 (h.map spR)), (8, .v (.int .i64 h.length)), (9, .v (.int .i64 y.1))], [(8, .box 88 (smA (plusS S h y.1))), (16, .box 88 (smA fun _ => 0))]⟩) (fun y => h.length - y.1) ⟨0, by omega⟩ [] ?_ ?_
  · simp (maxSteps := 2000000) only [enA, ↓enP, Nat.reduceAdd, Nat.reduceMul, Nat.reduceSub, Nat.reduceLT, Nat.reduceLeDiff, Nat.reduceEqDiff, Nat.reduceBEq, ↓reduceIte, reduceCtorEq, fA, plusS_zero, smA_eqr]
    try simp [smA, eqrL, eqr1, eqr0]
  intro y B hB
  obtain ⟨k, hk⟩ := y
  simp only at hB ⊢
  by_cases c : k < h.length
  · have p1 : ((k : Int) < (h.length : Int)) = True := eq_true (by omega)
    have p1' : (k < h.length) = True := eq_true c
    have p2 : ((k : Int) < 3) = True := eq_true (by omega)
    have p2' : (k < 3) = True := eq_true (by omega)
    have p3 : (k * 2 ≤ 5) = True := eq_true (by omega)
    have p3b : (k * 2 ≤ 4) = True := eq_true (by omega)
    have ek : IntKind.i64.wrap ((k : Int) + 1) = ((k + 1 : Nat) : Int) := wrap_id (by omega) (by omega)
    have hn := hb _ (nth_mem c)
    have s1 := hS (k * 2)
    have s2 := hS (k * 2 + 1)
    have x1 : plusS S h k (k * 2) = S (k * 2) := plusS_at (by omega)
    have x2 : plusS S h k (k * 2 + 1) = S (k * 2 + 1) := plusS_at (by omega)
    have gl := sm_low (plusS S h k) (k := k) (by omega)
    have gh := sm_high (plusS S h k) (k := k) (by omega)
    rw [x1] at gl
    rw [x2] at gh
    have w1 : IntKind.i64.wrap (S (k * 2) + (nth h k).1) = S (k * 2) + (nth h k).1 := wrap_id (by omega) (by omega)
    have w2 : IntKind.i64.wrap (S (k * 2 + 1) + (nth h k).2) = S (k * 2 + 1) + (nth h k).2 := wrap_id (by omega) (by omega)
    have gp := sm_put (plusS S h k) (k := k) (by omega) (S (k * 2) + (nth h k).1) (S (k * 2 + 1) + (nth h k).2)
    rw [plusS_step c _ _ rfl rfl] at gp
    simp (maxSteps := 2000000) only [vcA, ↓vcP, ↓reduceIte, reduceCtorEq, Nat.reduceAdd, Nat.reduceMul, Nat.reduceSub, Nat.reduceLT, Nat.reduceLeDiff, Nat.reduceEqDiff, Nat.reduceBEq, Nat.reduceBNe, Nat.reduceGT, Nat.reduceDiv, Nat.reduceMod, Int.reduceAdd, Int.reduceSub, Int.reduceNeg, Int.reduceLT, Int.reduceLE, Int.reduceEq, Int.reduceToNat, fA, p1, p1', p2, p2', p3, p3b, spR, smA_len, gl, gh, w1, w2, gp]
    try repeat (first | refine ⟨by kernel_rfl, ?_⟩ | refine ⟨⟨by kernel_rfl, by kernel_rfl⟩, ?_⟩ | refine ⟨⟨by kernel_rfl, by kernel_rfl, by kernel_rfl⟩, ?_⟩ | refine ⟨⟨by kernel_rfl, by kernel_rfl, by kernel_rfl, by kernel_rfl⟩, ?_⟩ | refine ⟨⟨by kernel_rfl, by kernel_rfl, by kernel_rfl, by kernel_rfl, by kernel_rfl⟩, ?_⟩ | refine ⟨⟨by kernel_rfl, by kernel_rfl, by kernel_rfl, by kernel_rfl, by kernel_rfl, by kernel_rfl⟩, ?_⟩ | refine ⟨⟨by kernel_rfl, by kernel_rfl, by kernel_rfl, by kernel_rfl, by kernel_rfl, by kernel_rfl, by kernel_rfl⟩, ?_⟩ | refine ⟨⟨by kernel_rfl, by kernel_rfl, by kernel_rfl, by kernel_rfl, by kernel_rfl, by kernel_rfl, by kernel_rfl, by kernel_rfl⟩, ?_⟩ | refine ⟨⟨by kernel_rfl, by kernel_rfl, by kernel_rfl, by kernel_rfl, by kernel_rfl, by kernel_rfl, by kernel_rfl, by kernel_rfl, by kernel_rfl⟩, ?_⟩ | refine ⟨⟨by kernel_rfl, by kernel_rfl, by kernel_rfl, by kernel_rfl, by kernel_rfl, by kernel_rfl, by kernel_rfl, by kernel_rfl, by kernel_rfl, by kernel_rfl⟩, ?_⟩ | refine ⟨⟨by kernel_rfl, by kernel_rfl, by kernel_rfl, by kernel_rfl, by kernel_rfl, by kernel_rfl, by kernel_rfl, by kernel_rfl, by kernel_rfl, by kernel_rfl, by kernel_rfl⟩, ?_⟩ | refine ⟨⟨by kernel_rfl, by kernel_rfl, by kernel_rfl, by kernel_rfl, by kernel_rfl, by kernel_rfl, by kernel_rfl, by kernel_rfl, by kernel_rfl, by kernel_rfl, by kernel_rfl, by kernel_rfl⟩, ?_⟩ | refine ⟨⟨by kernel_rfl, by kernel_rfl, by kernel_rfl, by kernel_rfl, by kernel_rfl, by kernel_rfl, by kernel_rfl, by kernel_rfl, by kernel_rfl, by kernel_rfl, by kernel_rfl, by kernel_rfl, by kernel_rfl⟩, ?_⟩)
    refine hB _ ⟨k + 1, by omega⟩ [] (by simp only; omega) rfl ?_
    simp (maxSteps := 2000000) only [enA, ↓enP, Nat.reduceAdd, Nat.reduceMul, Nat.reduceSub, Nat.reduceLT, Nat.reduceLeDiff, Nat.reduceEqDiff, Nat.reduceBEq, ↓reduceIte, reduceCtorEq, fA, ek, smA_eqr]
    try simp [smA, eqrL, eqr1, eqr0]
  obtain rfl : k = h.length := by omega
  have p1 : ((h.length : Int) < (h.length : Int)) = False := eq_false (by omega)
  have p1' : (h.length < h.length) = False := eq_false c
  simp (maxSteps := 2000000) only [vcA, ↓vcP, ↓reduceIte, reduceCtorEq, Nat.reduceAdd, Nat.reduceMul, Nat.reduceSub, Nat.reduceLT, Nat.reduceLeDiff, Nat.reduceEqDiff, Nat.reduceBEq, Nat.reduceBNe, Nat.reduceGT, Nat.reduceDiv, Nat.reduceMod, Int.reduceAdd, Int.reduceSub, Int.reduceNeg, Int.reduceLT, Int.reduceLE, Int.reduceEq, Int.reduceToNat, fA, p1, p1', smA_len, smA_tk]
  refine hR _ (fin_of0 ?_)
  simp (maxSteps := 2000000) only [enA, ↓enP, Nat.reduceAdd, Nat.reduceMul, Nat.reduceSub, Nat.reduceLT, Nat.reduceLeDiff, Nat.reduceEqDiff, Nat.reduceBEq, ↓reduceIte, reduceCtorEq, fA, smA_eqr]
  simp [smA, put, eqrL, eqr1, eqr0]
theorem ct_at (X : Nat → Int) {k : Nat} (h : k < 3) : (List.take 1 (List.drop (1 + k * 2) (ctA X))).headD .un = .v (.int .i64 (X (1 + k * 2))) := by
  rcases (by omega : k = 0 ∨ k = 1 ∨ k = 2) with rfl | rfl | rfl <;> rfl
theorem ct_at2 (X : Nat → Int) {k : Nat} (h : k < 3) : (List.take 1 (List.drop (1 + k * 2 + 1) (ctA X))).headD .un = .v (.int .i64 (X (1 + k * 2 + 1))) := by
  rcases (by omega : k = 0 ∨ k = 1 ∨ k = 2) with rfl | rfl | rfl <;> rfl
theorem ct_0 (X : Nat → Int) : (List.take 1 (ctA X)).headD .un = .v (.int .i64 (X 0)) := rfl
/-- Does a cart have too much; can it be all. -/
def overT (X : Nat → Int) (b : Bi) (k : Nat) : Bool := (List.range k).any fun j => decide (X (1 + j * 2) > (nth b.h j).2)
def overB (X : Nat → Int) (b : Bi) : Bool := overT X b b.h.length || decide (X 0 > b.n)
def mayK (X : Nat → Int) (b : Bi) (j : Nat) : Bool := !(decide (X (1 + j * 2 + 1) < (nth b.h j).1) || decide (X (1 + j * 2) > (nth b.h j).2))
def mayT (X : Nat → Int) (b : Bi) (k : Nat) : Bool := (List.range k).all (mayK X b)
def mayB (X : Nat → Int) (b : Bi) : Bool := decide (X 0 = b.n) && mayT X b b.h.length
theorem overT_succ (X : Nat → Int) (b : Bi) (k : Nat) : overT X b (k + 1) = (overT X b k || decide (X (1 + k * 2) > (nth b.h k).2)) := by simp [overT, List.range_succ]
theorem mayT_succ (X : Nat → Int) (b : Bi) (k : Nat) : mayT X b (k + 1) = (mayT X b k && mayK X b k) := by simp [mayT, List.range_succ]
theorem overT_le {X : Nat → Int} {b : Bi} : ∀ {k n : Nat}, k ≤ n → overT X b k = true → overT X b n = true := fun {k n} h h1 => by
  unfold overT at *
  rw [List.any_eq_true] at *
  obtain ⟨j, hj, h2⟩ := h1
  exact ⟨j, List.mem_range.2 (by have := List.mem_range.1 hj; omega), h2⟩
theorem mayT_le {X : Nat → Int} {b : Bi} : ∀ {k n : Nat}, k ≤ n → mayT X b n = true → mayT X b k = true := fun {k n} h h1 => by
  unfold mayT at *
  rw [List.all_eq_true] at *
  intro j hj
  exact h1 j (List.mem_range.2 (by have := List.mem_range.1 hj; omega))
set_option maxHeartbeats 2000000 in
theorem over_spec (X : Nat → Int) (b : Bi) (hh : b.h.length ≤ 3) : SpecF Try.prog 73 [.agg (ctA X), .agg [.v (.int .i64 b.n), .sl 2 (b.h.map spR)]] (.v (.bool (overB X b))) [] := by
  refine spec_go (N := 29) (rs := [.tmp 4]) (eq := eqs) rfl rfl fun_73 rfl (by kernel_rfl) (by kernel_rfl) (by simp) (by simp) (by simp) (by simp) fun R hR => ?_
  simp (maxSteps := 2000000) only [vcA, ↓vcP, ↓reduceIte, reduceCtorEq, Nat.reduceAdd, Nat.reduceMul, Nat.reduceSub, Nat.reduceLT, Nat.reduceLeDiff, Nat.reduceEqDiff, Nat.reduceBEq, Nat.reduceBNe, Nat.reduceGT, Nat.reduceDiv, Nat.reduceMod, Int.reduceAdd, Int.reduceSub, Int.reduceNeg, Int.reduceLT, Int.reduceLE, Int.reduceEq, Int.reduceToNat, fA]
  refine goC_loop (α := {k : Nat // k ≤ b.h.length ∧ overT X b k = false}) (fun y => ⟨[(2, .ptr 8 0), (3, .ptr 16 0), (8, .sl 2 (b.h.map spR)), (9, .v (.int .i64 b.h.length)), (10, .v (.int .i64 y.1))], [(8, .box 90 (ctA X)), (16, .box 39 [.v (.int .i64 b.n), .sl 2 (b.h.map spR)])]⟩) (fun y => b.h.length - y.1) ⟨0, by omega, rfl⟩ [] ?_ ?_
  · simp (maxSteps := 2000000) only [enA, ↓enP, Nat.reduceAdd, Nat.reduceMul, Nat.reduceSub, Nat.reduceLT, Nat.reduceLeDiff, Nat.reduceEqDiff, Nat.reduceBEq, ↓reduceIte, reduceCtorEq, fA, ctA_eqr]
    try rfl
  intro y B hB
  obtain ⟨k, hk, hno⟩ := y
  simp only at hB ⊢
  by_cases c : k < b.h.length
  · have p1 : ((k : Int) < (b.h.length : Int)) = True := eq_true (by omega)
    have p1' : (k < b.h.length) = True := eq_true c
    have p2 : ((k : Int) < 3) = True := eq_true (by omega)
    have p2' : (k < 3) = True := eq_true (by omega)
    have p3 : (k * 2 ≤ 5) = True := eq_true (by omega)
    have p4 : (1 + k * 2 ≤ 6) = True := eq_true (by omega)
    have ek : IntKind.i64.wrap ((k : Int) + 1) = ((k + 1 : Nat) : Int) := wrap_id (by omega) (by omega)
    have gl := ct_at X (k := k) (by omega)
    by_cases co : X (1 + k * 2) > (nth b.h k).2
    · have q : (X (1 + k * 2) > (nth b.h k).2) = True := eq_true co
      have q' : ((nth b.h k).2 < X (1 + k * 2)) = True := eq_true co
      have e : overB X b = true := by
        unfold overB
        rw [overT_le (k := k + 1) (n := b.h.length) (by omega) (by rw [overT_succ, decide_eq_true co]; simp)]
        rfl
      simp (maxSteps := 2000000) only [vcA, ↓vcP, ↓reduceIte, reduceCtorEq, Nat.reduceAdd, Nat.reduceMul, Nat.reduceSub, Nat.reduceLT, Nat.reduceLeDiff, Nat.reduceEqDiff, Nat.reduceBEq, Nat.reduceBNe, Nat.reduceGT, Nat.reduceDiv, Nat.reduceMod, Int.reduceAdd, Int.reduceSub, Int.reduceNeg, Int.reduceLT, Int.reduceLE, Int.reduceEq, Int.reduceToNat, fA, p1, p1', p2, p2', p3, p4, spR, ctA_len, gl, q, q']
      try repeat (first | refine ⟨by kernel_rfl, ?_⟩ | refine ⟨⟨by kernel_rfl, by kernel_rfl⟩, ?_⟩ | refine ⟨⟨by kernel_rfl, by kernel_rfl, by kernel_rfl⟩, ?_⟩ | refine ⟨⟨by kernel_rfl, by kernel_rfl, by kernel_rfl, by kernel_rfl⟩, ?_⟩ | refine ⟨⟨by kernel_rfl, by kernel_rfl, by kernel_rfl, by kernel_rfl, by kernel_rfl⟩, ?_⟩ | refine ⟨⟨by kernel_rfl, by kernel_rfl, by kernel_rfl, by kernel_rfl, by kernel_rfl, by kernel_rfl⟩, ?_⟩ | refine ⟨⟨by kernel_rfl, by kernel_rfl, by kernel_rfl, by kernel_rfl, by kernel_rfl, by kernel_rfl, by kernel_rfl⟩, ?_⟩ | refine ⟨⟨by kernel_rfl, by kernel_rfl, by kernel_rfl, by kernel_rfl, by kernel_rfl, by kernel_rfl, by kernel_rfl, by kernel_rfl⟩, ?_⟩ | refine ⟨⟨by kernel_rfl, by kernel_rfl, by kernel_rfl, by kernel_rfl, by kernel_rfl, by kernel_rfl, by kernel_rfl, by kernel_rfl, by kernel_rfl⟩, ?_⟩ | refine ⟨⟨by kernel_rfl, by kernel_rfl, by kernel_rfl, by kernel_rfl, by kernel_rfl, by kernel_rfl, by kernel_rfl, by kernel_rfl, by kernel_rfl, by kernel_rfl⟩, ?_⟩ | refine ⟨⟨by kernel_rfl, by kernel_rfl, by kernel_rfl, by kernel_rfl, by kernel_rfl, by kernel_rfl, by kernel_rfl, by kernel_rfl, by kernel_rfl, by kernel_rfl, by kernel_rfl⟩, ?_⟩ | refine ⟨⟨by kernel_rfl, by kernel_rfl, by kernel_rfl, by kernel_rfl, by kernel_rfl, by kernel_rfl, by kernel_rfl, by kernel_rfl, by kernel_rfl, by kernel_rfl, by kernel_rfl, by kernel_rfl⟩, ?_⟩ | refine ⟨⟨by kernel_rfl, by kernel_rfl, by kernel_rfl, by kernel_rfl, by kernel_rfl, by kernel_rfl, by kernel_rfl, by kernel_rfl, by kernel_rfl, by kernel_rfl, by kernel_rfl, by kernel_rfl, by kernel_rfl⟩, ?_⟩)
      refine hR _ (fin_of0 ?_)
      simp (maxSteps := 2000000) only [enA, ↓enP, Nat.reduceAdd, Nat.reduceMul, Nat.reduceSub, Nat.reduceLT, Nat.reduceLeDiff, Nat.reduceEqDiff, Nat.reduceBEq, ↓reduceIte, reduceCtorEq, fA, e]
    · have q : (X (1 + k * 2) > (nth b.h k).2) = False := eq_false co
      have q' : ((nth b.h k).2 < X (1 + k * 2)) = False := eq_false co
      have e : overT X b (k + 1) = false := by rw [overT_succ, hno, decide_eq_false co]; rfl
      simp (maxSteps := 2000000) only [vcA, ↓vcP, ↓reduceIte, reduceCtorEq, Nat.reduceAdd, Nat.reduceMul, Nat.reduceSub, Nat.reduceLT, Nat.reduceLeDiff, Nat.reduceEqDiff, Nat.reduceBEq, Nat.reduceBNe, Nat.reduceGT, Nat.reduceDiv, Nat.reduceMod, Int.reduceAdd, Int.reduceSub, Int.reduceNeg, Int.reduceLT, Int.reduceLE, Int.reduceEq, Int.reduceToNat, fA, p1, p1', p2, p2', p3, p4, spR, ctA_len, gl, q, q']
      try repeat (first | refine ⟨by kernel_rfl, ?_⟩ | refine ⟨⟨by kernel_rfl, by kernel_rfl⟩, ?_⟩ | refine ⟨⟨by kernel_rfl, by kernel_rfl, by kernel_rfl⟩, ?_⟩ | refine ⟨⟨by kernel_rfl, by kernel_rfl, by kernel_rfl, by kernel_rfl⟩, ?_⟩ | refine ⟨⟨by kernel_rfl, by kernel_rfl, by kernel_rfl, by kernel_rfl, by kernel_rfl⟩, ?_⟩ | refine ⟨⟨by kernel_rfl, by kernel_rfl, by kernel_rfl, by kernel_rfl, by kernel_rfl, by kernel_rfl⟩, ?_⟩ | refine ⟨⟨by kernel_rfl, by kernel_rfl, by kernel_rfl, by kernel_rfl, by kernel_rfl, by kernel_rfl, by kernel_rfl⟩, ?_⟩ | refine ⟨⟨by kernel_rfl, by kernel_rfl, by kernel_rfl, by kernel_rfl, by kernel_rfl, by kernel_rfl, by kernel_rfl, by kernel_rfl⟩, ?_⟩ | refine ⟨⟨by kernel_rfl, by kernel_rfl, by kernel_rfl, by kernel_rfl, by kernel_rfl, by kernel_rfl, by kernel_rfl, by kernel_rfl, by kernel_rfl⟩, ?_⟩ | refine ⟨⟨by kernel_rfl, by kernel_rfl, by kernel_rfl, by kernel_rfl, by kernel_rfl, by kernel_rfl, by kernel_rfl, by kernel_rfl, by kernel_rfl, by kernel_rfl⟩, ?_⟩ | refine ⟨⟨by kernel_rfl, by kernel_rfl, by kernel_rfl, by kernel_rfl, by kernel_rfl, by kernel_rfl, by kernel_rfl, by kernel_rfl, by kernel_rfl, by kernel_rfl, by kernel_rfl⟩, ?_⟩ | refine ⟨⟨by kernel_rfl, by kernel_rfl, by kernel_rfl, by kernel_rfl, by kernel_rfl, by kernel_rfl, by kernel_rfl, by kernel_rfl, by kernel_rfl, by kernel_rfl, by kernel_rfl, by kernel_rfl⟩, ?_⟩ | refine ⟨⟨by kernel_rfl, by kernel_rfl, by kernel_rfl, by kernel_rfl, by kernel_rfl, by kernel_rfl, by kernel_rfl, by kernel_rfl, by kernel_rfl, by kernel_rfl, by kernel_rfl, by kernel_rfl, by kernel_rfl⟩, ?_⟩)
      refine hB _ ⟨k + 1, by omega, e⟩ [] (by simp only; omega) rfl ?_
      simp (maxSteps := 2000000) only [enA, ↓enP, Nat.reduceAdd, Nat.reduceMul, Nat.reduceSub, Nat.reduceLT, Nat.reduceLeDiff, Nat.reduceEqDiff, Nat.reduceBEq, ↓reduceIte, reduceCtorEq, fA, ek, ctA_eqr]
      try rfl
  obtain rfl : k = b.h.length := by omega
  have p1 : ((b.h.length : Int) < (b.h.length : Int)) = False := eq_false (by omega)
  have p1' : (b.h.length < b.h.length) = False := eq_false c
  have e : overB X b = decide (X 0 > b.n) := by unfold overB; rw [hno]; rfl
  simp (maxSteps := 2000000) only [vcA, ↓vcP, ↓reduceIte, reduceCtorEq, Nat.reduceAdd, Nat.reduceMul, Nat.reduceSub, Nat.reduceLT, Nat.reduceLeDiff, Nat.reduceEqDiff, Nat.reduceBEq, Nat.reduceBNe, Nat.reduceGT, Nat.reduceDiv, Nat.reduceMod, Int.reduceAdd, Int.reduceSub, Int.reduceNeg, Int.reduceLT, Int.reduceLE, Int.reduceEq, Int.reduceToNat, fA, p1, p1', ctA_len, ct_0]
  by_cases cn : X 0 > b.n
  · have q : (X 0 > b.n) = True := eq_true cn
    try simp only [q]
    refine hR _ (fin_of0 ?_)
    simp (maxSteps := 2000000) only [enA, ↓enP, Nat.reduceAdd, Nat.reduceMul, Nat.reduceSub, Nat.reduceLT, Nat.reduceLeDiff, Nat.reduceEqDiff, Nat.reduceBEq, ↓reduceIte, reduceCtorEq, fA, e, q]
    try simp
  · have q : (X 0 > b.n) = False := eq_false cn
    try simp only [q]
    refine hR _ (fin_of0 ?_)
    simp (maxSteps := 2000000) only [enA, ↓enP, Nat.reduceAdd, Nat.reduceMul, Nat.reduceSub, Nat.reduceLT, Nat.reduceLeDiff, Nat.reduceEqDiff, Nat.reduceBEq, ↓reduceIte, reduceCtorEq, fA, e, q]
    try simp
set_option maxHeartbeats 2000000 in
theorem may_spec (X : Nat → Int) (b : Bi) (hh : b.h.length ≤ 3) : SpecF Try.prog 71 [.agg (ctA X), .agg [.v (.int .i64 b.n), .sl 2 (b.h.map spR)]] (.v (.bool (mayB X b))) [] := by
  refine spec_go (N := 39) (rs := [.tmp 4]) (eq := eqs) rfl rfl fun_71 rfl (by kernel_rfl) (by kernel_rfl) (by simp) (by simp) (by simp) (by simp) fun R hR => ?_
  by_cases cn : X 0 = b.n
  case' neg =>
    have q : (X 0 != b.n) = true := by simp [cn]
    have e : mayB X b = false := by unfold mayB; rw [decide_eq_false cn]; rfl
    simp (maxSteps := 2000000) only [vcA, ↓vcP, ↓reduceIte, reduceCtorEq, Nat.reduceAdd, Nat.reduceMul, Nat.reduceSub, Nat.reduceLT, Nat.reduceLeDiff, Nat.reduceEqDiff, Nat.reduceBEq, Nat.reduceBNe, Nat.reduceGT, Nat.reduceDiv, Nat.reduceMod, Int.reduceAdd, Int.reduceSub, Int.reduceNeg, Int.reduceLT, Int.reduceLE, Int.reduceEq, Int.reduceToNat, fA, ctA_len, ct_0, q]
    refine hR _ (fin_of0 ?_)
    simp (maxSteps := 2000000) only [enA, ↓enP, Nat.reduceAdd, Nat.reduceMul, Nat.reduceSub, Nat.reduceLT, Nat.reduceLeDiff, Nat.reduceEqDiff, Nat.reduceBEq, ↓reduceIte, reduceCtorEq, fA, e]
  have q : (X 0 != b.n) = false := by simp [cn]
  simp (maxSteps := 2000000) only [vcA, ↓vcP, ↓reduceIte, reduceCtorEq, Nat.reduceAdd, Nat.reduceMul, Nat.reduceSub, Nat.reduceLT, Nat.reduceLeDiff, Nat.reduceEqDiff, Nat.reduceBEq, Nat.reduceBNe, Nat.reduceGT, Nat.reduceDiv, Nat.reduceMod, Int.reduceAdd, Int.reduceSub, Int.reduceNeg, Int.reduceLT, Int.reduceLE, Int.reduceEq, Int.reduceToNat, fA, ctA_len, ct_0, q]
  refine goC_loop (α := {k : Nat // k ≤ b.h.length ∧ mayT X b k = true}) (fun y => ⟨[(2, .ptr 8 0), (3, .ptr 16 0), (13, .sl 2 (b.h.map spR)), (14, .v (.int .i64 b.h.length)), (15, .v (.int .i64 y.1))], [(8, .box 90 (ctA X)), (16, .box 39 [.v (.int .i64 b.n), .sl 2 (b.h.map spR)])]⟩) (fun y => b.h.length - y.1) ⟨0, by omega, rfl⟩ [] ?_ ?_
  · simp (maxSteps := 2000000) only [enA, ↓enP, Nat.reduceAdd, Nat.reduceMul, Nat.reduceSub, Nat.reduceLT, Nat.reduceLeDiff, Nat.reduceEqDiff, Nat.reduceBEq, ↓reduceIte, reduceCtorEq, fA, ctA_eqr]
    try rfl
  intro y B hB
  obtain ⟨k, hk, hno⟩ := y
  simp only at hB ⊢
  by_cases c : k < b.h.length
  · have p1 : ((k : Int) < (b.h.length : Int)) = True := eq_true (by omega)
    have p1' : (k < b.h.length) = True := eq_true c
    have p2 : ((k : Int) < 3) = True := eq_true (by omega)
    have p2' : (k < 3) = True := eq_true (by omega)
    have p3 : (k * 2 ≤ 5) = True := eq_true (by omega)
    have p3b : (k * 2 + 1 ≤ 5) = True := eq_true (by omega)
    have p4 : (1 + k * 2 ≤ 6) = True := eq_true (by omega)
    have p4b : (1 + k * 2 + 1 ≤ 6) = True := eq_true (by omega)
    have p5 : (1 + k * 2 ≤ 5) = True := eq_true (by omega)
    have ek : IntKind.i64.wrap ((k : Int) + 1) = ((k + 1 : Nat) : Int) := wrap_id (by omega) (by omega)
    have gl := ct_at X (k := k) (by omega)
    have gh := ct_at2 X (k := k) (by omega)
    have e0 : mayT X b k = true → mayT X b (k + 1) = mayK X b k := fun h => by rw [mayT_succ, h]; rfl
    by_cases c1 : X (1 + k * 2 + 1) < (nth b.h k).1
    · have q1 : (X (1 + k * 2 + 1) < (nth b.h k).1) = True := eq_true c1
      have e : mayB X b = false := by
        cases h : mayT X b b.h.length with
        | false => unfold mayB; rw [h]; simp
        | true =>
          have := mayT_le (k := k + 1) (n := b.h.length) (by omega) h
          rw [e0 hno] at this
          unfold mayK at this
          rw [decide_eq_true c1] at this
          simp at this
      simp (maxSteps := 2000000) only [vcA, ↓vcP, ↓reduceIte, reduceCtorEq, Nat.reduceAdd, Nat.reduceMul, Nat.reduceSub, Nat.reduceLT, Nat.reduceLeDiff, Nat.reduceEqDiff, Nat.reduceBEq, Nat.reduceBNe, Nat.reduceGT, Nat.reduceDiv, Nat.reduceMod, Int.reduceAdd, Int.reduceSub, Int.reduceNeg, Int.reduceLT, Int.reduceLE, Int.reduceEq, Int.reduceToNat, fA, p1, p1', p2, p2', p3, p3b, p4, p4b, p5, spR, ctA_len, gl, gh, q1]
      try repeat (first | refine ⟨by kernel_rfl, ?_⟩ | refine ⟨⟨by kernel_rfl, by kernel_rfl⟩, ?_⟩ | refine ⟨⟨by kernel_rfl, by kernel_rfl, by kernel_rfl⟩, ?_⟩ | refine ⟨⟨by kernel_rfl, by kernel_rfl, by kernel_rfl, by kernel_rfl⟩, ?_⟩ | refine ⟨⟨by kernel_rfl, by kernel_rfl, by kernel_rfl, by kernel_rfl, by kernel_rfl⟩, ?_⟩ | refine ⟨⟨by kernel_rfl, by kernel_rfl, by kernel_rfl, by kernel_rfl, by kernel_rfl, by kernel_rfl⟩, ?_⟩ | refine ⟨⟨by kernel_rfl, by kernel_rfl, by kernel_rfl, by kernel_rfl, by kernel_rfl, by kernel_rfl, by kernel_rfl⟩, ?_⟩ | refine ⟨⟨by kernel_rfl, by kernel_rfl, by kernel_rfl, by kernel_rfl, by kernel_rfl, by kernel_rfl, by kernel_rfl, by kernel_rfl⟩, ?_⟩ | refine ⟨⟨by kernel_rfl, by kernel_rfl, by kernel_rfl, by kernel_rfl, by kernel_rfl, by kernel_rfl, by kernel_rfl, by kernel_rfl, by kernel_rfl⟩, ?_⟩ | refine ⟨⟨by kernel_rfl, by kernel_rfl, by kernel_rfl, by kernel_rfl, by kernel_rfl, by kernel_rfl, by kernel_rfl, by kernel_rfl, by kernel_rfl, by kernel_rfl⟩, ?_⟩ | refine ⟨⟨by kernel_rfl, by kernel_rfl, by kernel_rfl, by kernel_rfl, by kernel_rfl, by kernel_rfl, by kernel_rfl, by kernel_rfl, by kernel_rfl, by kernel_rfl, by kernel_rfl⟩, ?_⟩ | refine ⟨⟨by kernel_rfl, by kernel_rfl, by kernel_rfl, by kernel_rfl, by kernel_rfl, by kernel_rfl, by kernel_rfl, by kernel_rfl, by kernel_rfl, by kernel_rfl, by kernel_rfl, by kernel_rfl⟩, ?_⟩ | refine ⟨⟨by kernel_rfl, by kernel_rfl, by kernel_rfl, by kernel_rfl, by kernel_rfl, by kernel_rfl, by kernel_rfl, by kernel_rfl, by kernel_rfl, by kernel_rfl, by kernel_rfl, by kernel_rfl, by kernel_rfl⟩, ?_⟩)
      refine hR _ (fin_of0 ?_)
      simp (maxSteps := 2000000) only [enA, ↓enP, Nat.reduceAdd, Nat.reduceMul, Nat.reduceSub, Nat.reduceLT, Nat.reduceLeDiff, Nat.reduceEqDiff, Nat.reduceBEq, ↓reduceIte, reduceCtorEq, fA, e]
    have q1 : (X (1 + k * 2 + 1) < (nth b.h k).1) = False := eq_false c1
    by_cases co : X (1 + k * 2) > (nth b.h k).2
    · have q2 : (X (1 + k * 2) > (nth b.h k).2) = True := eq_true co
      have q2' : ((nth b.h k).2 < X (1 + k * 2)) = True := eq_true co
      have e : mayB X b = false := by
        cases h : mayT X b b.h.length with
        | false => unfold mayB; rw [h]; simp
        | true =>
          have := mayT_le (k := k + 1) (n := b.h.length) (by omega) h
          rw [e0 hno] at this
          unfold mayK at this
          rw [decide_eq_true co] at this
          simp at this
      simp (maxSteps := 2000000) only [vcA, ↓vcP, ↓reduceIte, reduceCtorEq, Nat.reduceAdd, Nat.reduceMul, Nat.reduceSub, Nat.reduceLT, Nat.reduceLeDiff, Nat.reduceEqDiff, Nat.reduceBEq, Nat.reduceBNe, Nat.reduceGT, Nat.reduceDiv, Nat.reduceMod, Int.reduceAdd, Int.reduceSub, Int.reduceNeg, Int.reduceLT, Int.reduceLE, Int.reduceEq, Int.reduceToNat, fA, p1, p1', p2, p2', p3, p3b, p4, p4b, p5, spR, ctA_len, gl, gh, q1, q2, q2']
      try repeat (first | refine ⟨by kernel_rfl, ?_⟩ | refine ⟨⟨by kernel_rfl, by kernel_rfl⟩, ?_⟩ | refine ⟨⟨by kernel_rfl, by kernel_rfl, by kernel_rfl⟩, ?_⟩ | refine ⟨⟨by kernel_rfl, by kernel_rfl, by kernel_rfl, by kernel_rfl⟩, ?_⟩ | refine ⟨⟨by kernel_rfl, by kernel_rfl, by kernel_rfl, by kernel_rfl, by kernel_rfl⟩, ?_⟩ | refine ⟨⟨by kernel_rfl, by kernel_rfl, by kernel_rfl, by kernel_rfl, by kernel_rfl, by kernel_rfl⟩, ?_⟩ | refine ⟨⟨by kernel_rfl, by kernel_rfl, by kernel_rfl, by kernel_rfl, by kernel_rfl, by kernel_rfl, by kernel_rfl⟩, ?_⟩ | refine ⟨⟨by kernel_rfl, by kernel_rfl, by kernel_rfl, by kernel_rfl, by kernel_rfl, by kernel_rfl, by kernel_rfl, by kernel_rfl⟩, ?_⟩ | refine ⟨⟨by kernel_rfl, by kernel_rfl, by kernel_rfl, by kernel_rfl, by kernel_rfl, by kernel_rfl, by kernel_rfl, by kernel_rfl, by kernel_rfl⟩, ?_⟩ | refine ⟨⟨by kernel_rfl, by kernel_rfl, by kernel_rfl, by kernel_rfl, by kernel_rfl, by kernel_rfl, by kernel_rfl, by kernel_rfl, by kernel_rfl, by kernel_rfl⟩, ?_⟩ | refine ⟨⟨by kernel_rfl, by kernel_rfl, by kernel_rfl, by kernel_rfl, by kernel_rfl, by kernel_rfl, by kernel_rfl, by kernel_rfl, by kernel_rfl, by kernel_rfl, by kernel_rfl⟩, ?_⟩ | refine ⟨⟨by kernel_rfl, by kernel_rfl, by kernel_rfl, by kernel_rfl, by kernel_rfl, by kernel_rfl, by kernel_rfl, by kernel_rfl, by kernel_rfl, by kernel_rfl, by kernel_rfl, by kernel_rfl⟩, ?_⟩ | refine ⟨⟨by kernel_rfl, by kernel_rfl, by kernel_rfl, by kernel_rfl, by kernel_rfl, by kernel_rfl, by kernel_rfl, by kernel_rfl, by kernel_rfl, by kernel_rfl, by kernel_rfl, by kernel_rfl, by kernel_rfl⟩, ?_⟩)
      refine hR _ (fin_of0 ?_)
      simp (maxSteps := 2000000) only [enA, ↓enP, Nat.reduceAdd, Nat.reduceMul, Nat.reduceSub, Nat.reduceLT, Nat.reduceLeDiff, Nat.reduceEqDiff, Nat.reduceBEq, ↓reduceIte, reduceCtorEq, fA, e]
    · have q2 : (X (1 + k * 2) > (nth b.h k).2) = False := eq_false co
      have q2' : ((nth b.h k).2 < X (1 + k * 2)) = False := eq_false co
      have e : mayT X b (k + 1) = true := by rw [e0 hno]; unfold mayK; rw [decide_eq_false c1, decide_eq_false co]; rfl
      simp (maxSteps := 2000000) only [vcA, ↓vcP, ↓reduceIte, reduceCtorEq, Nat.reduceAdd, Nat.reduceMul, Nat.reduceSub, Nat.reduceLT, Nat.reduceLeDiff, Nat.reduceEqDiff, Nat.reduceBEq, Nat.reduceBNe, Nat.reduceGT, Nat.reduceDiv, Nat.reduceMod, Int.reduceAdd, Int.reduceSub, Int.reduceNeg, Int.reduceLT, Int.reduceLE, Int.reduceEq, Int.reduceToNat, fA, p1, p1', p2, p2', p3, p3b, p4, p4b, p5, spR, ctA_len, gl, gh, q1, q2, q2']
      try repeat (first | refine ⟨by kernel_rfl, ?_⟩ | refine ⟨⟨by kernel_rfl, by kernel_rfl⟩, ?_⟩ | refine ⟨⟨by kernel_rfl, by kernel_rfl, by kernel_rfl⟩, ?_⟩ | refine ⟨⟨by kernel_rfl, by kernel_rfl, by kernel_rfl, by kernel_rfl⟩, ?_⟩ | refine ⟨⟨by kernel_rfl, by kernel_rfl, by kernel_rfl, by kernel_rfl, by kernel_rfl⟩, ?_⟩ | refine ⟨⟨by kernel_rfl, by kernel_rfl, by kernel_rfl, by kernel_rfl, by kernel_rfl, by kernel_rfl⟩, ?_⟩ | refine ⟨⟨by kernel_rfl, by kernel_rfl, by kernel_rfl, by kernel_rfl, by kernel_rfl, by kernel_rfl, by kernel_rfl⟩, ?_⟩ | refine ⟨⟨by kernel_rfl, by kernel_rfl, by kernel_rfl, by kernel_rfl, by kernel_rfl, by kernel_rfl, by kernel_rfl, by kernel_rfl⟩, ?_⟩ | refine ⟨⟨by kernel_rfl, by kernel_rfl, by kernel_rfl, by kernel_rfl, by kernel_rfl, by kernel_rfl, by kernel_rfl, by kernel_rfl, by kernel_rfl⟩, ?_⟩ | refine ⟨⟨by kernel_rfl, by kernel_rfl, by kernel_rfl, by kernel_rfl, by kernel_rfl, by kernel_rfl, by kernel_rfl, by kernel_rfl, by kernel_rfl, by kernel_rfl⟩, ?_⟩ | refine ⟨⟨by kernel_rfl, by kernel_rfl, by kernel_rfl, by kernel_rfl, by kernel_rfl, by kernel_rfl, by kernel_rfl, by kernel_rfl, by kernel_rfl, by kernel_rfl, by kernel_rfl⟩, ?_⟩ | refine ⟨⟨by kernel_rfl, by kernel_rfl, by kernel_rfl, by kernel_rfl, by kernel_rfl, by kernel_rfl, by kernel_rfl, by kernel_rfl, by kernel_rfl, by kernel_rfl, by kernel_rfl, by kernel_rfl⟩, ?_⟩ | refine ⟨⟨by kernel_rfl, by kernel_rfl, by kernel_rfl, by kernel_rfl, by kernel_rfl, by kernel_rfl, by kernel_rfl, by kernel_rfl, by kernel_rfl, by kernel_rfl, by kernel_rfl, by kernel_rfl, by kernel_rfl⟩, ?_⟩)
      refine hB _ ⟨k + 1, by omega, e⟩ [] (by simp only; omega) rfl ?_
      simp (maxSteps := 2000000) only [enA, ↓enP, Nat.reduceAdd, Nat.reduceMul, Nat.reduceSub, Nat.reduceLT, Nat.reduceLeDiff, Nat.reduceEqDiff, Nat.reduceBEq, ↓reduceIte, reduceCtorEq, fA, ek, ctA_eqr]
      try rfl
  obtain rfl : k = b.h.length := by omega
  have p1 : ((b.h.length : Int) < (b.h.length : Int)) = False := eq_false (by omega)
  have p1' : (b.h.length < b.h.length) = False := eq_false c
  have e : mayB X b = true := by unfold mayB; rw [hno, decide_eq_true cn]; rfl
  simp (maxSteps := 2000000) only [vcA, ↓vcP, ↓reduceIte, reduceCtorEq, Nat.reduceAdd, Nat.reduceMul, Nat.reduceSub, Nat.reduceLT, Nat.reduceLeDiff, Nat.reduceEqDiff, Nat.reduceBEq, Nat.reduceBNe, Nat.reduceGT, Nat.reduceDiv, Nat.reduceMod, Int.reduceAdd, Int.reduceSub, Int.reduceNeg, Int.reduceLT, Int.reduceLE, Int.reduceEq, Int.reduceToNat, fA, p1, p1']
  refine hR _ (fin_of0 ?_)
  simp (maxSteps := 2000000) only [enA, ↓enP, Nat.reduceAdd, Nat.reduceMul, Nat.reduceSub, Nat.reduceLT, Nat.reduceLeDiff, Nat.reduceEqDiff, Nat.reduceBEq, ↓reduceIte, reduceCtorEq, fA, e]
end Go.Proofs.Ytmkholodkejomaa.Ab.T08
