/- The reference: a bound for sticks. -/
import Derived.Test.YtiohnfpnaegfaaaP0
import Derived.Test.YtiohnfpnaegfaaaP2
namespace Go.Proofs.Ytiohnfpnaegfaaa.Ab.T01
open Go Go.RowKit
set_option linter.unusedSimpArgs false
set_option linter.unusedVariables false
set_option maxRecDepth 100000
def clsR (v : Vw) (s : Sw) (r : Nat) : Int := clsS (fun x => (blockI v (oneS s) x).length) v.bottom.length s.long.toNat r v.bottom.length
theorem clsS_le {f : Nat → Nat} {n long r c : Nat} (hf : ∀ x, x < n → f x ≤ c) : ∀ i : Nat, clsS f n long r i ≤ c * i
  | 0 => by rw [clsS]; simp
  | i + 1 => by
    have ih := clsS_le (f := f) (n := n) (long := long) (r := r) hf i
    rw [clsS]
    have e : ((c : Int) * ((i + 1 : Nat) : Int)) = c * i + c := by rw [Int.natCast_add, Int.mul_add]; simp
    rw [e]
    split
    · rename_i h
      have := hf i h.2
      omega
    · omega
set_option maxHeartbeats 4000000 in
theorem bound2_spec (v : Vw) (s : Sw) (hv : v.Ok) (hs : sawOk s = true) : SpecF Try.prog 18 [.agg [.sl 1 (v.bottom.map iR), .sl 1 (v.top.map iR), .sl 6 (v.spoils.map refR)], .agg [.v (.int .i64 s.long), .v (.int .i64 s.wide), .v (.int .i64 s.kerf), .v (.int .i64 s.across)]] (.tup [.v (.int .i64 (leastR (clsR v s) s.long.toNat).1), .v (.int .i64 (leastR (clsR v s) s.long.toNat).2)]) [] := by
  have hs0 := hs
  unfold sawOk at hs
  simp only [Bool.and_eq_true] at hs
  have s1 := betw1 hs.1.1
  have hle := hv.le
  have el : ((s.long.toNat : Nat) : Int) = s.long := by omega
  have hone : sawOk (oneS s) = true := by
    unfold sawOk oneS
    simp only [Bool.and_eq_true]
    exact ⟨⟨rfl, hs.1.2⟩, hs.2⟩
  have hbl : ∀ x, x < v.bottom.length → (blockI v (oneS s) x).length ≤ 301 := fun x hx => blockI_len (v := v) (s := oneS s) (x := x) hv (by simp [oneS]) (by simp [oneS]; omega)
  have hblk : ∀ x : Nat, x < v.bottom.length → SpecF Try.prog 40 [.agg [.sl 1 (v.bottom.map iR), .sl 1 (v.top.map iR), .sl 6 (v.spoils.map refR)], .agg [.v (.int .i64 1), .v (.int .i64 s.wide), .v (.int .i64 s.kerf), .v (.int .i64 s.across)], .v (.int .i64 x)] (.sl 1 ((blockI v (oneS s) x).map iR)) [] := fun x hx => block3_spec v (oneS s) x hv hone (by simp [oneS]; omega)
  obtain ⟨L, hL⟩ : ∃ L, L = s.long.toNat := ⟨_, rfl⟩
  obtain ⟨n, hn⟩ : ∃ n, n = v.bottom.length := ⟨_, rfl⟩
  obtain ⟨f, hf⟩ : ∃ f : Nat → Nat, f = fun x => (blockI v (oneS s) x).length := ⟨_, rfl⟩
  have hfx : ∀ x, (blockI v (oneS s) x).length = f x := fun x => by rw [hf]
  have hcls : ∀ r, clsR v s r = clsS f n L r n := fun r => by unfold clsR; rw [hf, hn, hL]
  have hcle : ∀ r i, i ≤ 200 → 0 ≤ clsS f n L r i ∧ clsS f n L r i ≤ 301 * 200 := fun r i hi => ⟨clsS_nonneg i, by
    have := clsS_le (f := f) (n := n) (long := L) (r := r) (c := 301) (fun x hx => by rw [hf]; exact hbl x (by omega)) i
    omega⟩
  rw [← hL]
  refine spec_go (N := 48) (rs := [.tmp 4, .tmp 5]) (eq := eqs) rfl rfl fun_18 rfl (by kernel_rfl) (by kernel_rfl) (by simp) (by simp) (by simp) (by simp) fun R hR => ?_
  simp (maxSteps := 2000000) only [vcA, ↓vcP, ↓reduceIte, reduceCtorEq, Nat.reduceAdd, Nat.reduceMul, Nat.reduceSub, Nat.reduceLT, Nat.reduceLeDiff, Nat.reduceEqDiff, Nat.reduceBEq, Nat.reduceBNe, Nat.reduceGT, Nat.reduceDiv, Nat.reduceMod, Int.reduceAdd, Int.reduceSub, Int.reduceNeg, Int.reduceLT, Int.reduceLE, Int.reduceEq, Int.reduceToNat, fA]
  repeat (first | refine ⟨by kernel_rfl, ?_⟩ | refine ⟨⟨by kernel_rfl, by kernel_rfl⟩, ?_⟩ | refine ⟨⟨by kernel_rfl, by kernel_rfl, by kernel_rfl⟩, ?_⟩ | refine ⟨⟨by kernel_rfl, by kernel_rfl, by kernel_rfl, by kernel_rfl⟩, ?_⟩ | refine ⟨⟨by kernel_rfl, by kernel_rfl, by kernel_rfl, by kernel_rfl, by kernel_rfl⟩, ?_⟩ | refine ⟨⟨by kernel_rfl, by kernel_rfl, by kernel_rfl, by kernel_rfl, by kernel_rfl, by kernel_rfl⟩, ?_⟩ | refine ⟨⟨by kernel_rfl, by kernel_rfl, by kernel_rfl, by kernel_rfl, by kernel_rfl, by kernel_rfl, by kernel_rfl⟩, ?_⟩ | refine ⟨⟨by kernel_rfl, by kernel_rfl, by kernel_rfl, by kernel_rfl, by kernel_rfl, by kernel_rfl, by kernel_rfl, by kernel_rfl⟩, ?_⟩)
  refine goC_loop (α := {r : Nat // r ≤ L}) (fun x => ⟨[(2, .ptr 8 0), (3, .ptr 16 0), (6, .v (.int .i64 (leastR (clsR v s) x.1).1)), (7, .v (.int .i64 (leastR (clsR v s) x.1).2)), (8, .ptr 48 0), (9, .v (.int .i64 x.1))], [(8, .box 41 [.sl 1 (v.bottom.map iR), .sl 1 (v.top.map iR), .sl 6 (v.spoils.map refR)]), (16, .box 27 [.v (.int .i64 s.long), .v (.int .i64 s.wide), .v (.int .i64 s.kerf), .v (.int .i64 s.across)]), (48, .box 27 [.v (.int .i64 1), .v (.int .i64 s.wide), .v (.int .i64 s.kerf), .v (.int .i64 s.across)])]⟩) (fun x => L - x.1) ⟨0, by omega⟩ [] ?_ ?_
  · simp (maxSteps := 2000000) only [enA, ↓enP, Nat.reduceAdd, Nat.reduceMul, Nat.reduceSub, Nat.reduceLT, Nat.reduceLeDiff, Nat.reduceEqDiff, Nat.reduceBEq, ↓reduceIte, reduceCtorEq, fA]
    exact ⟨rfl, rfl, rfl⟩
  intro x B hB
  obtain ⟨r, hr⟩ := x
  by_cases hc : r < L
  · have qc : ((r : Int) < s.long) = True := eq_true (by omega)
    have e3 : IntKind.i64.wrap ((r : Int) + 1) = ((r + 1 : Nat) : Int) := wrap_id (by omega) (by omega)
    simp (maxSteps := 2000000) only [vcA, ↓vcP, ↓reduceIte, reduceCtorEq, Nat.reduceAdd, Nat.reduceMul, Nat.reduceSub, Nat.reduceLT, Nat.reduceLeDiff, Nat.reduceEqDiff, Nat.reduceBEq, Nat.reduceBNe, Nat.reduceGT, Nat.reduceDiv, Nat.reduceMod, Int.reduceAdd, Int.reduceSub, Int.reduceNeg, Int.reduceLT, Int.reduceLE, Int.reduceEq, Int.reduceToNat, fA, qc]
    refine goC_loop (α := {x : Nat // x % L = r ∧ x ≤ 200 ∧ x < n + L}) (fun q => ⟨[(2, .ptr 8 0), (3, .ptr 16 0), (6, .v (.int .i64 (leastR (clsR v s) r).1)), (7, .v (.int .i64 (leastR (clsR v s) r).2)), (8, .ptr 48 0), (9, .v (.int .i64 r)), (10, .v (.int .i64 (clsS f n L r q.1))), (11, .v (.int .i64 q.1))], [(8, .box 41 [.sl 1 (v.bottom.map iR), .sl 1 (v.top.map iR), .sl 6 (v.spoils.map refR)]), (16, .box 27 [.v (.int .i64 s.long), .v (.int .i64 s.wide), .v (.int .i64 s.kerf), .v (.int .i64 s.across)]), (48, .box 27 [.v (.int .i64 1), .v (.int .i64 s.wide), .v (.int .i64 s.kerf), .v (.int .i64 s.across)])]⟩) (fun q => n + L - q.1) ⟨r, Nat.mod_eq_of_lt hc, by omega, by omega⟩ [] ?_ ?_
    · simp (maxSteps := 2000000) only [enA, ↓enP, Nat.reduceAdd, Nat.reduceMul, Nat.reduceSub, Nat.reduceLT, Nat.reduceLeDiff, Nat.reduceEqDiff, Nat.reduceBEq, ↓reduceIte, reduceCtorEq, fA]
      rw [clsS_first hc]
    intro q B2 hB2
    obtain ⟨x, hx1, hx2, hx3⟩ := q
    by_cases hc2 : x < n
    · have q2 : ((x : Int) < v.bottom.length) = True := eq_true (by omega)
      have q3 : (x < v.bottom.length) = True := eq_true (by omega)
      have e4 : IntKind.i64.wrap ((x : Int) + s.long) = ((x + L : Nat) : Int) := (wrap_id (by omega) (by omega)).trans (by omega)
      have hst := clsS_step (f := f) (n := n) (long := L) (r := r) (x := x) (by omega) hx1 hc2
      have hcl := hcle r x (by omega)
      have hfl : f x ≤ 301 := by rw [hf]; exact hbl x (by omega)
      have e5 : IntKind.i64.wrap (clsS f n L r x + (f x : Int)) = clsS f n L r (x + L) := by rw [hst]; exact wrap_id (by omega) (by omega)
      simp (maxSteps := 2000000) only [vcA, ↓vcP, ↓reduceIte, reduceCtorEq, Nat.reduceAdd, Nat.reduceMul, Nat.reduceSub, Nat.reduceLT, Nat.reduceLeDiff, Nat.reduceEqDiff, Nat.reduceBEq, Nat.reduceBNe, Nat.reduceGT, Nat.reduceDiv, Nat.reduceMod, Int.reduceAdd, Int.reduceSub, Int.reduceNeg, Int.reduceLT, Int.reduceLE, Int.reduceEq, Int.reduceToNat, fA, q2, q3]
      refine onF_data (hblk x (by omega)) ?_ ?_
      · simp (maxSteps := 2000000) only [okA, ↓okP, Nat.reduceAdd, Nat.reduceMul, Nat.reduceSub, Nat.reduceLT, Nat.reduceLeDiff, Nat.reduceEqDiff, Nat.reduceBEq, ↓reduceIte, reduceCtorEq]
      simp (maxSteps := 2000000) only [vcA, ↓vcP, ↓reduceIte, reduceCtorEq, Nat.reduceAdd, Nat.reduceMul, Nat.reduceSub, Nat.reduceLT, Nat.reduceLeDiff, Nat.reduceEqDiff, Nat.reduceBEq, Nat.reduceBNe, Nat.reduceGT, Nat.reduceDiv, Nat.reduceMod, Int.reduceAdd, Int.reduceSub, Int.reduceNeg, Int.reduceLT, Int.reduceLE, Int.reduceEq, Int.reduceToNat, fA, hfx, e4, e5]
      refine hB2 _ ⟨x + L, by rw [Nat.add_mod_right]; exact hx1, by omega, by omega⟩ [] (by simp only; omega) rfl ?_
      simp (maxSteps := 2000000) only [enA, ↓enP, Nat.reduceAdd, Nat.reduceMul, Nat.reduceSub, Nat.reduceLT, Nat.reduceLeDiff, Nat.reduceEqDiff, Nat.reduceBEq, ↓reduceIte, reduceCtorEq, fA]
    have q2 : ((x : Int) < v.bottom.length) = False := eq_false (by omega)
    have q3 : (x < v.bottom.length) = False := eq_false (by omega)
    have hend := clsS_end (f := f) (n := n) (long := L) (r := r) (x := x) (by omega)
    rw [← hcls] at hend
    simp (maxSteps := 2000000) only [vcA, ↓vcP, ↓reduceIte, reduceCtorEq, Nat.reduceAdd, Nat.reduceMul, Nat.reduceSub, Nat.reduceLT, Nat.reduceLeDiff, Nat.reduceEqDiff, Nat.reduceBEq, Nat.reduceBNe, Nat.reduceGT, Nat.reduceDiv, Nat.reduceMod, Int.reduceAdd, Int.reduceSub, Int.reduceNeg, Int.reduceLT, Int.reduceLE, Int.reduceEq, Int.reduceToNat, fA, q2, q3, hend, e3]
    have hlst : leastR (clsR v s) (r + 1) = if (leastR (clsR v s) r).2 < 0 ∨ clsR v s r < (leastR (clsR v s) r).1 then (clsR v s r, (r : Int)) else leastR (clsR v s) r := rfl
    refine ⟨fun c1 => ⟨fun c2 => hB _ ⟨r + 1, by omega⟩ [] (by simp only; omega) rfl ?_, fun c2 => hB _ ⟨r + 1, by omega⟩ [] (by simp only; omega) rfl ?_⟩, fun c1 => hB _ ⟨r + 1, by omega⟩ [] (by simp only; omega) rfl ?_⟩
    · rw [hlst, if_pos (.inr c2)]
      simp (maxSteps := 2000000) only [enA, ↓enP, Nat.reduceAdd, Nat.reduceMul, Nat.reduceSub, Nat.reduceLT, Nat.reduceLeDiff, Nat.reduceEqDiff, Nat.reduceBEq, ↓reduceIte, reduceCtorEq, fA]
    · rw [hlst, if_neg (by omega)]
      simp (maxSteps := 2000000) only [enA, ↓enP, Nat.reduceAdd, Nat.reduceMul, Nat.reduceSub, Nat.reduceLT, Nat.reduceLeDiff, Nat.reduceEqDiff, Nat.reduceBEq, ↓reduceIte, reduceCtorEq, fA]
    · rw [hlst, if_pos (.inl c1)]
      simp (maxSteps := 2000000) only [enA, ↓enP, Nat.reduceAdd, Nat.reduceMul, Nat.reduceSub, Nat.reduceLT, Nat.reduceLeDiff, Nat.reduceEqDiff, Nat.reduceBEq, ↓reduceIte, reduceCtorEq, fA]
  have qc : ((r : Int) < s.long) = False := eq_false (by omega)
  have : r = L := by omega
  subst this
  simp (maxSteps := 2000000) only [vcA, ↓vcP, ↓reduceIte, reduceCtorEq, Nat.reduceAdd, Nat.reduceMul, Nat.reduceSub, Nat.reduceLT, Nat.reduceLeDiff, Nat.reduceEqDiff, Nat.reduceBEq, Nat.reduceBNe, Nat.reduceGT, Nat.reduceDiv, Nat.reduceMod, Int.reduceAdd, Int.reduceSub, Int.reduceNeg, Int.reduceLT, Int.reduceLE, Int.reduceEq, Int.reduceToNat, fA, qc]
  refine hR _ (fin_of0 ?_)
  simp (maxSteps := 2000000) only [enA, ↓enP, Nat.reduceAdd, Nat.reduceMul, Nat.reduceSub, Nat.reduceLT, Nat.reduceLeDiff, Nat.reduceEqDiff, Nat.reduceBEq, ↓reduceIte, reduceCtorEq, fA]
end Go.Proofs.Ytiohnfpnaegfaaa.Ab.T01
