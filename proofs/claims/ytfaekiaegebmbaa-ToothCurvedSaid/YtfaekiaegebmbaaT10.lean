/- The contract of Bound. -/
import Derived.Test.YtfaekiaegebmbaaT9
namespace Go.Proofs.Ytfaekiaegebmbaa.Ab
open Go Go.RowKit
set_option linter.unusedVariables false
set_option linter.unusedSimpArgs false
set_option maxRecDepth 100000
theorem index1_spec (l : List Int) (n : Int) (hl : l.length < 1000000) : SpecF Try.prog 79 [.sl 1 (l.map iR), .v (.int .i64 n)] (.v (.int .i64 (idxI (fun m => n == m) l))) [] := by
  refine spec_go (N := 19) (rs := [.tmp 4]) (eq := eqs) rfl rfl fun_79 rfl (by kernel_rfl) (by kernel_rfl) (by simp) (by simp) (by simp) (by simp) fun R hR => ?_
  simp (maxSteps := 2000000) only [vcA, ↓vcP, ↓reduceIte, reduceCtorEq, Nat.reduceAdd, Nat.reduceMul, Nat.reduceSub, Nat.reduceLT, Nat.reduceLeDiff, Nat.reduceEqDiff, Nat.reduceBEq, Nat.reduceBNe, Nat.reduceGT, Nat.reduceDiv, Nat.reduceMod, Int.reduceAdd, Int.reduceSub, Int.reduceNeg, Int.reduceLT, Int.reduceLE, Int.reduceEq, Int.reduceToNat, fA]
  refine goC_loop (α := {i : Nat // i ≤ l.length ∧ ∀ j, j < i → (n == nth l j) = false}) (fun x => ⟨[(0, .sl 1 (l.map iR)), (1, .v (.int .i64 n)), (7, .v (.int .i64 l.length)), (8, .v (.int .i64 x.1))], []⟩) (fun x => l.length - x.1) ⟨0, by omega, by omega⟩ [] ?_ ?_
  · simp (maxSteps := 2000000) only [enA, ↓enP, Nat.reduceAdd, Nat.reduceMul, Nat.reduceSub, Nat.reduceLT, Nat.reduceLeDiff, Nat.reduceEqDiff, Nat.reduceBEq, ↓reduceIte, reduceCtorEq, fA]
    rfl
  intro x B hB
  obtain ⟨i, hi', hx⟩ := x
  simp (maxSteps := 2000000) only [vcA, ↓vcP, ↓reduceIte, reduceCtorEq, Nat.reduceAdd, Nat.reduceMul, Nat.reduceSub, Nat.reduceLT, Nat.reduceLeDiff, Nat.reduceEqDiff, Nat.reduceBEq, Nat.reduceBNe, Nat.reduceGT, Nat.reduceDiv, Nat.reduceMod, Int.reduceAdd, Int.reduceSub, Int.reduceNeg, Int.reduceLT, Int.reduceLE, Int.reduceEq, Int.reduceToNat, fA, iR]
  refine ⟨fun h1 => ⟨h1, fun _ => ⟨h1, fun _ => ⟨fun h => hR _ (fin_of0 ?_), fun h => hB _ ⟨i + 1, by omega, ?_⟩ [] ?_ rfl ?_⟩⟩⟩, fun h1 => hR _ (fin_of0 ?_)⟩
  · simp (maxSteps := 2000000) only [enA, ↓enP, Nat.reduceAdd, Nat.reduceMul, Nat.reduceSub, Nat.reduceLT, Nat.reduceLeDiff, Nat.reduceEqDiff, Nat.reduceBEq, ↓reduceIte, reduceCtorEq, fA]
    rw [idxI_some (p := fun m => n == m) h1 h hx]
  · intro j hj
    by_cases e : j = i
    · subst e; exact h
    · exact hx j (by omega)
  · simp only; omega
  · simp (maxSteps := 2000000) only [enA, ↓enP, Nat.reduceAdd, Nat.reduceMul, Nat.reduceSub, Nat.reduceLT, Nat.reduceLeDiff, Nat.reduceEqDiff, Nat.reduceBEq, ↓reduceIte, reduceCtorEq, fA]
    rw [wrap_id (by omega) (by omega)]
    rfl
  · simp (maxSteps := 2000000) only [enA, ↓enP, Nat.reduceAdd, Nat.reduceMul, Nat.reduceSub, Nat.reduceLT, Nat.reduceLeDiff, Nat.reduceEqDiff, Nat.reduceBEq, ↓reduceIte, reduceCtorEq, fA]
    rw [idxI_none (p := fun m => n == m) fun j hj => hx j (by omega)]
def oneS (s : Sw) : Sw := { s with long := 1 }
def sumsTo (v : Vw) (s : Sw) : Nat → List Int
  | 0 => List.replicate s.long.toNat 0
  | i + 1 => (sumsTo v s i).set (i % s.long.toNat) (nth (sumsTo v s i) (i % s.long.toNat) + (blockI v (oneS s) i).length)
def boundR (b : Bl) (s : Sw) : Int × Int × Int := if openErr b s ≠ 0 then (0, 0, openErr b s) else
  let l := sumsTo (sureV (newLow b) (newTop b) b.cracks) s b.bottom.length
  (minI l, idxI (fun m => minI l == m) l, 0)
theorem blockGo_len (v : Vw) (x long wide kerf hi : Int) : ∀ (f : Nat) (y : Int), (blockGo v x long wide kerf hi f y).length ≤ f
  | 0, _ => Nat.zero_le _
  | f + 1, y => by
    rw [blockGo]
    split
    · split
      · exact Nat.le_trans (blockGo_len v x long wide kerf hi f _) (Nat.le_succ f)
      · rw [List.length_cons]
        exact Nat.succ_le_succ (blockGo_len v x long wide kerf hi f _)
    · exact Nat.zero_le _
theorem blockI_len {v : Vw} {s : Sw} {x : Nat} (hv : v.Ok) (h1 : 1 ≤ s.long.toNat) (hx : x + s.long.toNat ≤ v.bottom.length) : (blockI v s x).length ≤ 301 := by
  have := room_bound hv h1 hx
  unfold blockI blockAt
  exact Nat.le_trans (blockGo_len _ _ _ _ _ _ _ _) (by omega)
theorem sumsTo_bd {v : Vw} {s : Sw} (hv : v.Ok) : ∀ {i : Nat}, i ≤ v.bottom.length → ∀ n ∈ sumsTo v s i, 0 ≤ n ∧ n ≤ 301 * i
  | 0, _, n, hn => by
    rw [sumsTo] at hn
    have := List.eq_of_mem_replicate hn
    omega
  | i + 1, hi, n, hn => by
    rw [sumsTo] at hn
    have ih := sumsTo_bd (v := v) (s := s) hv (i := i) (by omega)
    rcases List.mem_or_eq_of_mem_set hn with h | h
    · have := ih n h
      omega
    · subst h
      have hb := blockI_len (v := v) (s := oneS s) (x := i) hv (by simp [oneS]) (by simp [oneS]; omega)
      by_cases hlt : i % s.long.toNat < (sumsTo v s i).length
      · have := ih _ (nth_mem hlt)
        omega
      · have e : nth (sumsTo v s i) (i % s.long.toNat) = 0 := by
          unfold nth
          simp [List.getElem?_eq_none (Nat.le_of_not_lt hlt)]
        omega
theorem open_ok {b : Bl} {s : Sw} (h4 : openErr b s = 0) : newErr b = 0 ∧ sawOk s = true := by
  unfold openErr at h4
  split at h4
  · rename_i h5; exact absurd h4 h5
  · rename_i h5
    split at h4
    · rename_i h6; exact ⟨by simpa using h5, h6⟩
    · cases h4
theorem boundB_spec (b : Bl) (s : Sw) (h1 : b.bottom.length < 1000000) (h2 : b.top.length < 1000000) : SpecF Try.prog 41 [.agg [.sl 2 (b.bottom.map spR), .sl 2 (b.top.map spR), .v (.int .i64 b.bend), .sl 6 (b.cracks.map crR)], .agg [.v (.int .i64 s.long), .v (.int .i64 s.wide), .v (.int .i64 s.kerf), .v (.int .i64 s.across)]]
    (.tup [.v (.int .i64 (boundR b s).1), .v (.int .i64 (boundR b s).2.1), .v (.int .i64 (boundR b s).2.2)]) [] := by
  refine spec_go (N := 55) (rs := [.tmp 4, .tmp 5, .tmp 6]) (eq := eqs) rfl rfl fun_41 rfl (by kernel_rfl) (by kernel_rfl) (by simp) (by simp) (by simp) (by simp) fun R hR => ?_
  simp (maxSteps := 2000000) only [vcA, ↓vcP, ↓reduceIte, reduceCtorEq, Nat.reduceAdd, Nat.reduceMul, Nat.reduceSub, Nat.reduceLT, Nat.reduceLeDiff, Nat.reduceEqDiff, Nat.reduceBEq, Nat.reduceBNe, Nat.reduceGT, Nat.reduceDiv, Nat.reduceMod, Int.reduceAdd, Int.reduceSub, Int.reduceNeg, Int.reduceLT, Int.reduceLE, Int.reduceEq, Int.reduceToNat, fA]
  refine onF_call (openB_spec b s h1 h2) [] [] [] ?_ ?_
  · simp (maxSteps := 2000000) only [okA, ↓okP, Nat.reduceAdd, Nat.reduceMul, Nat.reduceSub, Nat.reduceLT, Nat.reduceLeDiff, Nat.reduceEqDiff, Nat.reduceBEq, ↓reduceIte, reduceCtorEq]
  simp (maxSteps := 2000000) only [vcA, ↓vcP, ↓reduceIte, reduceCtorEq, Nat.reduceAdd, Nat.reduceMul, Nat.reduceSub, Nat.reduceLT, Nat.reduceLeDiff, Nat.reduceEqDiff, Nat.reduceBEq, Nat.reduceBNe, Nat.reduceGT, Nat.reduceDiv, Nat.reduceMod, Int.reduceAdd, Int.reduceSub, Int.reduceNeg, Int.reduceLT, Int.reduceLE, Int.reduceEq, Int.reduceToNat, fA]
  refine ⟨fun h3 => hR _ (fin_of0 ?_), fun h3 => ?_⟩
  · have h4 : openErr b s ≠ 0 := by simpa using h3
    have e1 : boundR b s = (0, 0, openErr b s) := by unfold boundR; rw [if_pos h4]
    rw [e1]
    simp (maxSteps := 2000000) only [enA, ↓enP, Nat.reduceAdd, Nat.reduceMul, Nat.reduceSub, Nat.reduceLT, Nat.reduceLeDiff, Nat.reduceEqDiff, Nat.reduceBEq, ↓reduceIte, reduceCtorEq, fA]
  have h4 : openErr b s = 0 := by simpa using h3
  obtain ⟨hN, hS⟩ := open_ok h4
  obtain ⟨n0, o1, o2, l1, l2, g1, g2, g3, _⟩ := new_ok hN
  rw [n0]
  have hsw := hS
  unfold sawOk at hsw
  simp only [Bool.and_eq_true] at hsw
  have s1 := betw1 hsw.1.1
  refine ⟨by simp only [maxLen]; omega, fun _ => ?_⟩
  refine onF_call (sure_spec b (newLow b) (newTop b) (by omega) (by omega) (by omega)) [64, 65] [] [] ?_ ?_
  · simp (maxSteps := 2000000) only [okA, ↓okP, Nat.reduceAdd, Nat.reduceMul, Nat.reduceSub, Nat.reduceLT, Nat.reduceLeDiff, Nat.reduceEqDiff, Nat.reduceBEq, ↓reduceIte, reduceCtorEq]
  simp (maxSteps := 2000000) only [vcA, ↓vcP, ↓reduceIte, reduceCtorEq, Nat.reduceAdd, Nat.reduceMul, Nat.reduceSub, Nat.reduceLT, Nat.reduceLeDiff, Nat.reduceEqDiff, Nat.reduceBEq, Nat.reduceBNe, Nat.reduceGT, Nat.reduceDiv, Nat.reduceMod, Int.reduceAdd, Int.reduceSub, Int.reduceNeg, Int.reduceLT, Int.reduceLE, Int.reduceEq, Int.reduceToNat, fA]
  repeat (first | refine ⟨by kernel_rfl, ?_⟩ | refine ⟨⟨by kernel_rfl, by kernel_rfl⟩, ?_⟩ | refine ⟨⟨by kernel_rfl, by kernel_rfl, by kernel_rfl⟩, ?_⟩ | refine ⟨⟨by kernel_rfl, by kernel_rfl, by kernel_rfl, by kernel_rfl⟩, ?_⟩ | refine ⟨⟨by kernel_rfl, by kernel_rfl, by kernel_rfl, by kernel_rfl, by kernel_rfl⟩, ?_⟩ | refine ⟨⟨by kernel_rfl, by kernel_rfl, by kernel_rfl, by kernel_rfl, by kernel_rfl, by kernel_rfl⟩, ?_⟩ | refine ⟨⟨by kernel_rfl, by kernel_rfl, by kernel_rfl, by kernel_rfl, by kernel_rfl, by kernel_rfl, by kernel_rfl⟩, ?_⟩ | refine ⟨⟨by kernel_rfl, by kernel_rfl, by kernel_rfl, by kernel_rfl, by kernel_rfl, by kernel_rfl, by kernel_rfl, by kernel_rfl⟩, ?_⟩ | refine ⟨⟨by kernel_rfl, by kernel_rfl, by kernel_rfl, by kernel_rfl, by kernel_rfl, by kernel_rfl, by kernel_rfl, by kernel_rfl, by kernel_rfl⟩, ?_⟩ | refine ⟨⟨by kernel_rfl, by kernel_rfl, by kernel_rfl, by kernel_rfl, by kernel_rfl, by kernel_rfl, by kernel_rfl, by kernel_rfl, by kernel_rfl, by kernel_rfl⟩, ?_⟩ | refine ⟨⟨by kernel_rfl, by kernel_rfl, by kernel_rfl, by kernel_rfl, by kernel_rfl, by kernel_rfl, by kernel_rfl, by kernel_rfl, by kernel_rfl, by kernel_rfl, by kernel_rfl⟩, ?_⟩ | refine ⟨⟨by kernel_rfl, by kernel_rfl, by kernel_rfl, by kernel_rfl, by kernel_rfl, by kernel_rfl, by kernel_rfl, by kernel_rfl, by kernel_rfl, by kernel_rfl, by kernel_rfl, by kernel_rfl⟩, ?_⟩ | refine ⟨⟨by kernel_rfl, by kernel_rfl, by kernel_rfl, by kernel_rfl, by kernel_rfl, by kernel_rfl, by kernel_rfl, by kernel_rfl, by kernel_rfl, by kernel_rfl, by kernel_rfl, by kernel_rfl, by kernel_rfl⟩, ?_⟩)
  have elv : ∀ (i : Nat), (sumsTo (sureV (newLow b) (newTop b) b.cracks) s i).length = s.long.toNat := fun i => by
    induction i with
    | zero => rw [sumsTo, List.length_replicate]
    | succ i ih => rw [sumsTo, List.length_set, ih]
  have elI : ((s.long.toNat : Nat) : Int) = s.long := by omega
  have hsz : (newLow b).length ≤ 30 := by omega
  refine goC_loop (α := {i : Nat // i ≤ (newLow b).length}) (fun x => ⟨[(3, .ptr 16 0), (8, .ob 152 s.long.toNat), (9, .ptr 184 0), (10, .ptr 192 0), (30, .v (.int .i64 (newLow b).length)), (31, .v (.int .i64 x.1))], [(16, .box 32 [.v (.int .i64 s.long), .v (.int .i64 s.wide), .v (.int .i64 s.kerf), .v (.int .i64 s.across)]), (152, .row 3 1 ((sumsTo (sureV (newLow b) (newTop b) b.cracks) s x.1).map iR) false),
    (168, .row 3 1 ((sureV (newLow b) (newTop b) b.cracks).bottom.map iR) false), (169, .row 3 1 ((sureV (newLow b) (newTop b) b.cracks).top.map iR) false), (170, .row 118 4 ((sureV (newLow b) (newTop b) b.cracks).spoils.map spoR) false), (184, .box 113 [.ob 168 (newLow b).length, .ob 169 (newTop b).length, .ob 170 b.cracks.length]), (192, .box 32 [.v (.int .i64 1), .v (.int .i64 s.wide), .v (.int .i64 s.kerf), .v (.int .i64 s.across)])]⟩) (fun x => (newLow b).length - x.1) ⟨0, by omega⟩ [] ?_ ?_
  · simp (maxSteps := 2000000) only [enA, ↓enP, Nat.reduceAdd, Nat.reduceMul, Nat.reduceSub, Nat.reduceLT, Nat.reduceLeDiff, Nat.reduceEqDiff, Nat.reduceBEq, ↓reduceIte, reduceCtorEq, fA]
    simp only [sumsTo, List.map_replicate, iR]
    exact ⟨rfl, trivial⟩
  intro x B hB
  obtain ⟨i, hi⟩ := x
  have em : (i : Int).tmod s.long = ((i % s.long.toNat : Nat) : Int) := by
    exact (congrArg (fun z : Int => (i : Int).tmod z) elI.symm).trans rfl
  have hmlt : i % s.long.toNat < s.long.toNat := Nat.mod_lt _ (by omega)
  have hone : sawOk (oneS s) = true := by
    unfold sawOk oneS
    simp only [Bool.and_eq_true]
    exact ⟨⟨rfl, hsw.1.2⟩, hsw.2⟩
  have hlow : (sureV (newLow b) (newTop b) b.cracks).bottom.length = (newLow b).length := by simp [sureV]
  have htop : (sureV (newLow b) (newTop b) b.cracks).top.length = (newTop b).length := by simp [sureV]
  have hspo : (sureV (newLow b) (newTop b) b.cracks).spoils.length = b.cracks.length := by simp [sureV]
  have hok := sure_ok hN
  generalize hV : sureV (newLow b) (newTop b) b.cracks = V at *
  simp (maxSteps := 2000000) only [vcA, ↓vcP, ↓reduceIte, reduceCtorEq, Nat.reduceAdd, Nat.reduceMul, Nat.reduceSub, Nat.reduceLT, Nat.reduceLeDiff, Nat.reduceEqDiff, Nat.reduceBEq, Nat.reduceBNe, Nat.reduceGT, Nat.reduceDiv, Nat.reduceMod, Int.reduceAdd, Int.reduceSub, Int.reduceNeg, Int.reduceLT, Int.reduceLE, Int.reduceEq, Int.reduceToNat, fA, em, elv, hV]
  refine ⟨fun c1 => ?_, fun c1 => ?_⟩
  · refine ⟨by omega, fun _ => ⟨by omega, fun _ => ⟨by omega, fun _ => ?_⟩⟩⟩
    have hblk := block_spec V (oneS s) i hok hone (by rw [hlow]; simp [oneS]; omega)
    refine onF_call hblk [] [168, 169, 170] [] ?_ ?_
    · simp (maxSteps := 2000000) only [okA, ↓okP, Nat.reduceAdd, Nat.reduceMul, Nat.reduceSub, Nat.reduceLT, Nat.reduceLeDiff, Nat.reduceEqDiff, Nat.reduceBEq, ↓reduceIte, reduceCtorEq]
      exact ⟨⟨rfl, rfl, rfl, rfl⟩, rows_onlyI _⟩
    have hb1 := blockI_len (v := V) (s := oneS s) (x := i) hok (by simp [oneS]) (by rw [hlow]; simp [oneS]; omega)
    have hb2 := sumsTo_bd (s := s) hok (i := i) (by omega) _ (nth_mem (l := sumsTo V s i) (i := i % s.long.toNat) (by rw [elv]; exact hmlt))
    have ew : IntKind.i64.wrap (nth (sumsTo V s i) (i % s.long.toNat) + (blockI V (oneS s) i).length) = nth (sumsTo V s i) (i % s.long.toNat) + (blockI V (oneS s) i).length := wrap_id (by omega) (by omega)
    simp (maxSteps := 2000000) only [vcA, ↓vcP, ↓reduceIte, reduceCtorEq, Nat.reduceAdd, Nat.reduceMul, Nat.reduceSub, Nat.reduceLT, Nat.reduceLeDiff, Nat.reduceEqDiff, Nat.reduceBEq, Nat.reduceBNe, Nat.reduceGT, Nat.reduceDiv, Nat.reduceMod, Int.reduceAdd, Int.reduceSub, Int.reduceNeg, Int.reduceLT, Int.reduceLE, Int.reduceEq, Int.reduceToNat, fA, em, elv, hV, ew, iR]
    repeat (first | refine ⟨by kernel_rfl, ?_⟩ | refine ⟨⟨by kernel_rfl, by kernel_rfl⟩, ?_⟩ | refine ⟨⟨by kernel_rfl, by kernel_rfl, by kernel_rfl⟩, ?_⟩ | refine ⟨⟨by kernel_rfl, by kernel_rfl, by kernel_rfl, by kernel_rfl⟩, ?_⟩ | refine ⟨⟨by kernel_rfl, by kernel_rfl, by kernel_rfl, by kernel_rfl, by kernel_rfl⟩, ?_⟩ | refine ⟨⟨by kernel_rfl, by kernel_rfl, by kernel_rfl, by kernel_rfl, by kernel_rfl, by kernel_rfl⟩, ?_⟩ | refine ⟨⟨by kernel_rfl, by kernel_rfl, by kernel_rfl, by kernel_rfl, by kernel_rfl, by kernel_rfl, by kernel_rfl⟩, ?_⟩ | refine ⟨⟨by kernel_rfl, by kernel_rfl, by kernel_rfl, by kernel_rfl, by kernel_rfl, by kernel_rfl, by kernel_rfl, by kernel_rfl⟩, ?_⟩ | refine ⟨⟨by kernel_rfl, by kernel_rfl, by kernel_rfl, by kernel_rfl, by kernel_rfl, by kernel_rfl, by kernel_rfl, by kernel_rfl, by kernel_rfl⟩, ?_⟩ | refine ⟨⟨by kernel_rfl, by kernel_rfl, by kernel_rfl, by kernel_rfl, by kernel_rfl, by kernel_rfl, by kernel_rfl, by kernel_rfl, by kernel_rfl, by kernel_rfl⟩, ?_⟩ | refine ⟨⟨by kernel_rfl, by kernel_rfl, by kernel_rfl, by kernel_rfl, by kernel_rfl, by kernel_rfl, by kernel_rfl, by kernel_rfl, by kernel_rfl, by kernel_rfl, by kernel_rfl⟩, ?_⟩ | refine ⟨⟨by kernel_rfl, by kernel_rfl, by kernel_rfl, by kernel_rfl, by kernel_rfl, by kernel_rfl, by kernel_rfl, by kernel_rfl, by kernel_rfl, by kernel_rfl, by kernel_rfl, by kernel_rfl⟩, ?_⟩ | refine ⟨⟨by kernel_rfl, by kernel_rfl, by kernel_rfl, by kernel_rfl, by kernel_rfl, by kernel_rfl, by kernel_rfl, by kernel_rfl, by kernel_rfl, by kernel_rfl, by kernel_rfl, by kernel_rfl, by kernel_rfl⟩, ?_⟩)
    have hset : (sumsTo V s i).set (i % s.long.toNat) (nth (sumsTo V s i) (i % s.long.toNat) + (blockI V (oneS s) i).length) = sumsTo V s (i + 1) := by rw [sumsTo]
    refine ⟨by omega, fun _ => ⟨by omega, fun _ => ?_⟩⟩
    repeat (first | refine ⟨by kernel_rfl, ?_⟩ | refine ⟨⟨by kernel_rfl, by kernel_rfl⟩, ?_⟩ | refine ⟨⟨by kernel_rfl, by kernel_rfl, by kernel_rfl⟩, ?_⟩ | refine ⟨⟨by kernel_rfl, by kernel_rfl, by kernel_rfl, by kernel_rfl⟩, ?_⟩ | refine ⟨⟨by kernel_rfl, by kernel_rfl, by kernel_rfl, by kernel_rfl, by kernel_rfl⟩, ?_⟩ | refine ⟨⟨by kernel_rfl, by kernel_rfl, by kernel_rfl, by kernel_rfl, by kernel_rfl, by kernel_rfl⟩, ?_⟩ | refine ⟨⟨by kernel_rfl, by kernel_rfl, by kernel_rfl, by kernel_rfl, by kernel_rfl, by kernel_rfl, by kernel_rfl⟩, ?_⟩ | refine ⟨⟨by kernel_rfl, by kernel_rfl, by kernel_rfl, by kernel_rfl, by kernel_rfl, by kernel_rfl, by kernel_rfl, by kernel_rfl⟩, ?_⟩ | refine ⟨⟨by kernel_rfl, by kernel_rfl, by kernel_rfl, by kernel_rfl, by kernel_rfl, by kernel_rfl, by kernel_rfl, by kernel_rfl, by kernel_rfl⟩, ?_⟩ | refine ⟨⟨by kernel_rfl, by kernel_rfl, by kernel_rfl, by kernel_rfl, by kernel_rfl, by kernel_rfl, by kernel_rfl, by kernel_rfl, by kernel_rfl, by kernel_rfl⟩, ?_⟩ | refine ⟨⟨by kernel_rfl, by kernel_rfl, by kernel_rfl, by kernel_rfl, by kernel_rfl, by kernel_rfl, by kernel_rfl, by kernel_rfl, by kernel_rfl, by kernel_rfl, by kernel_rfl⟩, ?_⟩ | refine ⟨⟨by kernel_rfl, by kernel_rfl, by kernel_rfl, by kernel_rfl, by kernel_rfl, by kernel_rfl, by kernel_rfl, by kernel_rfl, by kernel_rfl, by kernel_rfl, by kernel_rfl, by kernel_rfl⟩, ?_⟩ | refine ⟨⟨by kernel_rfl, by kernel_rfl, by kernel_rfl, by kernel_rfl, by kernel_rfl, by kernel_rfl, by kernel_rfl, by kernel_rfl, by kernel_rfl, by kernel_rfl, by kernel_rfl, by kernel_rfl, by kernel_rfl⟩, ?_⟩)
    refine hB _ ⟨i + 1, by omega⟩ [] (by simp only; omega) rfl ?_
    simp (maxSteps := 2000000) only [enA, ↓enP, Nat.reduceAdd, Nat.reduceMul, Nat.reduceSub, Nat.reduceLT, Nat.reduceLeDiff, Nat.reduceEqDiff, Nat.reduceBEq, ↓reduceIte, reduceCtorEq, fA]
    refine ⟨wrap_id (by omega) (by omega), ?_⟩
    rw [← hset, List.map_set, nth_map iR _ _ (by rw [elv]; exact hmlt)]
    rfl
  · have hi2 : i = (newLow b).length := by omega
    have hb2 := sumsTo_bd (s := s) hok (i := i) (by omega)
    have hlen : (sumsTo V s i).length = s.long.toNat := elv i
    refine onF_call (min_spec (sumsTo V s i) (List.ne_nil_of_length_pos (by omega)) (by omega)) [] [152] [] ?_ ?_
    · simp (maxSteps := 2000000) only [okA, ↓okP, Nat.reduceAdd, Nat.reduceMul, Nat.reduceSub, Nat.reduceLT, Nat.reduceLeDiff, Nat.reduceEqDiff, Nat.reduceBEq, ↓reduceIte, reduceCtorEq]
    simp (maxSteps := 2000000) only [vcA, ↓vcP, ↓reduceIte, reduceCtorEq, Nat.reduceAdd, Nat.reduceMul, Nat.reduceSub, Nat.reduceLT, Nat.reduceLeDiff, Nat.reduceEqDiff, Nat.reduceBEq, Nat.reduceBNe, Nat.reduceGT, Nat.reduceDiv, Nat.reduceMod, Int.reduceAdd, Int.reduceSub, Int.reduceNeg, Int.reduceLT, Int.reduceLE, Int.reduceEq, Int.reduceToNat, fA, em, elv, hV]
    refine onF_call (index1_spec (sumsTo V s i) (minI (sumsTo V s i)) (by omega)) [] [152] [] ?_ ?_
    · simp (maxSteps := 2000000) only [okA, ↓okP, Nat.reduceAdd, Nat.reduceMul, Nat.reduceSub, Nat.reduceLT, Nat.reduceLeDiff, Nat.reduceEqDiff, Nat.reduceBEq, ↓reduceIte, reduceCtorEq]
    simp (maxSteps := 2000000) only [vcA, ↓vcP, ↓reduceIte, reduceCtorEq, Nat.reduceAdd, Nat.reduceMul, Nat.reduceSub, Nat.reduceLT, Nat.reduceLeDiff, Nat.reduceEqDiff, Nat.reduceBEq, Nat.reduceBNe, Nat.reduceGT, Nat.reduceDiv, Nat.reduceMod, Int.reduceAdd, Int.reduceSub, Int.reduceNeg, Int.reduceLT, Int.reduceLE, Int.reduceEq, Int.reduceToNat, fA, em, elv, hV]
    refine hR _ (fin_of0 ?_)
    have eR : boundR b s = (minI (sumsTo V s i), idxI (fun m => minI (sumsTo V s i) == m) (sumsTo V s i), 0) := by
      unfold boundR
      rw [if_neg (by rw [h4]; simp), hV, hi2, l1]
    rw [eR]
    simp (maxSteps := 2000000) only [enA, ↓enP, Nat.reduceAdd, Nat.reduceMul, Nat.reduceSub, Nat.reduceLT, Nat.reduceLeDiff, Nat.reduceEqDiff, Nat.reduceBEq, ↓reduceIte, reduceCtorEq, fA]
end Go.Proofs.Ytfaekiaegebmbaa.Ab
