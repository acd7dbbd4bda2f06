/- Contracts of the blade's views: the sticks of a block. -/
import Derived.Test.YtfaekiaegebmbaaT7
namespace Go.Proofs.Ytfaekiaegebmbaa.Ab
open Go Go.RowKit
set_option linter.unusedVariables false
set_option linter.unusedSimpArgs false
set_option maxRecDepth 100000
/-- The sticks of a block from a height on. -/
def blockGo (v : Vw) (x long wide kerf hi : Int) : Nat → Int → List Int
  | 0, _ => []
  | f + 1, y => if y + wide ≤ hi then match spoilt v x long y wide with
    | some t => blockGo v x long wide kerf hi f t
    | none => y :: blockGo v x long wide kerf hi f (y + (wide + kerf))
    else []
def blockAt (v : Vw) (x long wide kerf hi y : Int) : List Int := blockGo v x long wide kerf hi (hi - y + 1).toNat y
theorem spoilt_gt {v : Vw} {x long y wide t : Int} (h : spoilt v x long y wide = some t) : y < t ∧ ∃ s ∈ v.spoils, s.ht.2 = t := by
  unfold spoilt at h
  obtain ⟨s, hs, rfl⟩ := Option.map_eq_some_iff.1 h
  have h1 := List.find?_some hs
  have h2 := List.mem_of_find?_eq_some hs
  unfold spoils at h1
  simp only [Bool.and_eq_true, decide_eq_true_eq] at h1
  exact ⟨by omega, s, h2, rfl⟩
theorem blockGo_fuel {v : Vw} {x long wide kerf hi : Int} (hw : 1 ≤ wide) (hk : 0 ≤ kerf) : ∀ (f g : Nat) (y : Int), (hi - y + 1).toNat ≤ f → (hi - y + 1).toNat ≤ g → blockGo v x long wide kerf hi f y = blockGo v x long wide kerf hi g y
  | 0, 0, _, _, _ => rfl
  | 0, g + 1, y, h, _ => by
    rw [blockGo, blockGo, if_neg (by omega)]
  | f + 1, 0, y, _, h => by
    rw [blockGo, blockGo, if_neg (by omega)]
  | f + 1, g + 1, y, h1, h2 => by
    rw [blockGo, blockGo]
    by_cases hc : y + wide ≤ hi
    · rw [if_pos hc, if_pos hc]
      cases hs : spoilt v x long y wide with
      | some t =>
        have := spoilt_gt hs
        exact blockGo_fuel hw hk f g t (by omega) (by omega)
      | none =>
        simp only
        rw [blockGo_fuel hw hk f g (y + (wide + kerf)) (by omega) (by omega)]
    · rw [if_neg hc, if_neg hc]
theorem blockAt_end {v : Vw} {x long wide kerf hi y : Int} (h : ¬ y + wide ≤ hi) : blockAt v x long wide kerf hi y = [] := by
  unfold blockAt
  cases (hi - y + 1).toNat with
  | zero => rfl
  | succ f => rw [blockGo, if_neg h]
theorem blockAt_step {v : Vw} {x long wide kerf hi y : Int} (hw : 1 ≤ wide) (hk : 0 ≤ kerf) (h : y + wide ≤ hi) : blockAt v x long wide kerf hi y = match spoilt v x long y wide with
    | some t => blockAt v x long wide kerf hi t
    | none => y :: blockAt v x long wide kerf hi (y + (wide + kerf)) := by
  unfold blockAt
  have e : (hi - y + 1).toNat = (hi - y).toNat + 1 := by omega
  rw [e, blockGo, if_pos h]
  cases hs : spoilt v x long y wide with
  | some t =>
    have := spoilt_gt hs
    exact blockGo_fuel hw hk _ _ t (by omega) (by omega)
  | none =>
    simp only
    rw [blockGo_fuel hw hk (hi - y).toNat (hi - (y + (wide + kerf)) + 1).toNat _ (by omega) (by omega)]
def blockI (v : Vw) (s : Sw) (x : Nat) : List Int := blockAt v x s.long s.wide s.kerf (roomI v x s.long.toNat).2 (roomI v x s.long.toNat).1
structure Vw.Ok (v : Vw) : Prop where
  bottom : ∀ n ∈ v.bottom, 0 ≤ n ∧ n ≤ 300
  top : ∀ n ∈ v.top, 0 ≤ n ∧ n ≤ 300
  spoils : ∀ s ∈ v.spoils, s.ht.2 ≤ 300
  len : v.bottom.length = v.top.length
  le : v.bottom.length ≤ 100
  sle : v.spoils.length ≤ 100
theorem fold_mem (op : Int → Int → Int) (hop : ∀ a b, op a b = a ∨ op a b = b) : ∀ (l : List Int) (a : Int), l.foldl op a = a ∨ l.foldl op a ∈ l
  | [], a => .inl rfl
  | b :: l, a => by
    rw [List.foldl_cons]
    rcases fold_mem op hop l (op a b) with h | h
    · rcases hop a b with h1 | h1
      · left; rw [h, h1]
      · right; rw [h, h1]; simp
    · right; simp [h]
theorem room_bound {v : Vw} (hv : v.Ok) {x long : Nat} (hl : 1 ≤ long) (hx : x + long ≤ v.bottom.length) : (0 ≤ (roomI v x long).1 ∧ (roomI v x long).1 ≤ 300) ∧ 0 ≤ (roomI v x long).2 ∧ (roomI v x long).2 ≤ 300 := by
  have key : ∀ (op : Int → Int → Int), (∀ a b, op a b = a ∨ op a b = b) → ∀ (l : List Int), l.length = v.bottom.length → (∀ n ∈ l, 0 ≤ n ∧ n ≤ 300) → 0 ≤ ((l.take (x + long)).drop x).foldl op (nth ((l.take (x + long)).drop x) 0) ∧ ((l.take (x + long)).drop x).foldl op (nth ((l.take (x + long)).drop x) 0) ≤ 300 := fun op hop l hl' hb => by
    have hlen : 0 < ((l.take (x + long)).drop x).length := by simp; omega
    have hsub : ∀ n ∈ (l.take (x + long)).drop x, 0 ≤ n ∧ n ≤ 300 := fun n hn => hb n (List.mem_of_mem_take (List.mem_of_mem_drop hn))
    rcases fold_mem op hop ((l.take (x + long)).drop x) (nth ((l.take (x + long)).drop x) 0) with h | h
    · rw [h]; exact hsub _ (nth_mem hlen)
    · exact hsub _ h
  exact ⟨key max (fun a b => by omega) v.bottom rfl hv.bottom, key min (fun a b => by omega) v.top hv.len.symm hv.top⟩
theorem block_spec (v : Vw) (s : Sw) (x : Nat) (hv : v.Ok) (hs : sawOk s = true) (hx : x + s.long.toNat ≤ v.bottom.length) : SpecF Try.prog 77 [.agg [.sl 1 (v.bottom.map iR), .sl 1 (v.top.map iR), .sl 4 (v.spoils.map spoR)], .agg [.v (.int .i64 s.long), .v (.int .i64 s.wide), .v (.int .i64 s.kerf), .v (.int .i64 s.across)], .v (.int .i64 x)] (.ob 0 (blockI v s x).length) [.row 3 1 ((blockI v s x).map iR) false] := by
  unfold sawOk at hs
  simp only [Bool.and_eq_true] at hs
  have s1 := betw1 hs.1.1
  have s2 := betw1 hs.1.2
  have s3 := (betw2 hs.2).1
  have hle := hv.le
  have hrb := room_bound hv (x := x) (long := s.long.toNat) (by omega) hx
  have el : ((s.long.toNat : Nat) : Int) = s.long := by omega
  refine spec_go (N := 50) (rs := [.tmp 6]) (eq := eqs) rfl rfl fun_77 rfl (by kernel_rfl) (by kernel_rfl) (by simp) (by simp) (by simp) (by simp) fun R hR => ?_
  simp (maxSteps := 2000000) only [vcA, ↓vcP, ↓reduceIte, reduceCtorEq, Nat.reduceAdd, Nat.reduceMul, Nat.reduceSub, Nat.reduceLT, Nat.reduceLeDiff, Nat.reduceEqDiff, Nat.reduceBEq, Nat.reduceBNe, Nat.reduceGT, Nat.reduceDiv, Nat.reduceMod, Int.reduceAdd, Int.reduceSub, Int.reduceNeg, Int.reduceLT, Int.reduceLE, Int.reduceEq, Int.reduceToNat, fA]
  have hroom := room_spec v x s.long.toNat (by omega) hx (by have := hv.len; omega) (by omega) (by have := hv.len; omega)
  rw [el] at hroom
  refine onF_data hroom ?_ ?_
  · simp (maxSteps := 2000000) only [okA, ↓okP, Nat.reduceAdd, Nat.reduceMul, Nat.reduceSub, Nat.reduceLT, Nat.reduceLeDiff, Nat.reduceEqDiff, Nat.reduceBEq, ↓reduceIte, reduceCtorEq]
  simp (maxSteps := 2000000) only [vcA, ↓vcP, ↓reduceIte, reduceCtorEq, Nat.reduceAdd, Nat.reduceMul, Nat.reduceSub, Nat.reduceLT, Nat.reduceLeDiff, Nat.reduceEqDiff, Nat.reduceBEq, Nat.reduceBNe, Nat.reduceGT, Nat.reduceDiv, Nat.reduceMod, Int.reduceAdd, Int.reduceSub, Int.reduceNeg, Int.reduceLT, Int.reduceLE, Int.reduceEq, Int.reduceToNat, fA]
  generalize hlo : (roomI v x s.long.toNat).1 = lo at hrb
  generalize hhi : (roomI v x s.long.toNat).2 = hi at hrb
  have hB0 : blockI v s x = blockAt v x s.long s.wide s.kerf hi lo := by unfold blockI; rw [hlo, hhi]
  refine goC_loop (α := {q : Int × List Int // 0 ≤ q.1 ∧ q.1 ≤ 1000 ∧ (q.2.length : Int) ≤ q.1 ∧ blockI v s x = q.2 ++ blockAt v x s.long s.wide s.kerf hi q.1}) (fun q => ⟨[(2, .v (.int .i64 x)), (3, .ptr 8 0), (4, .ptr 16 0), (6, .ob 112 q.1.2.length), (7, .ptr 72 0), (8, .v (.int .i64 q.1.1))], [(8, .box 113 [.sl 1 (v.bottom.map iR), .sl 1 (v.top.map iR), .sl 4 (v.spoils.map spoR)]), (16, .box 32 [.v (.int .i64 s.long), .v (.int .i64 s.wide), .v (.int .i64 s.kerf), .v (.int .i64 s.across)]), (72, .box 44 [.v (.int .i64 lo), .v (.int .i64 hi)]), (112, .row 3 1 (q.1.2.map iR) false)]⟩) (fun q => (hi + 1 - q.1.1).toNat) ⟨(lo, []), by omega, by omega, by simp; omega, by rw [hB0]; rfl⟩ [none] ?_ ?_
  · simp (maxSteps := 2000000) only [enA, ↓enP, Nat.reduceAdd, Nat.reduceMul, Nat.reduceSub, Nat.reduceLT, Nat.reduceLeDiff, Nat.reduceEqDiff, Nat.reduceBEq, ↓reduceIte, reduceCtorEq, fA]
  intro q B hB
  obtain ⟨⟨y, acc⟩, hy0, hy1, hacc, hinv⟩ := q
  simp only at hy0 hy1 hacc hinv
  have e1 : IntKind.i64.wrap (y + s.wide) = y + s.wide := wrap_id (by omega) (by omega)
  have e2 : IntKind.i64.wrap (s.wide + s.kerf) = s.wide + s.kerf := wrap_id (by omega) (by omega)
  have e3 : IntKind.i64.wrap (y + (s.wide + s.kerf)) = y + (s.wide + s.kerf) := wrap_id (by omega) (by omega)
  have hml : acc.length + 1 ≤ maxLen := by simp only [maxLen]; omega
  simp (maxSteps := 2000000) only [vcA, ↓vcP, ↓reduceIte, reduceCtorEq, Nat.reduceAdd, Nat.reduceMul, Nat.reduceSub, Nat.reduceLT, Nat.reduceLeDiff, Nat.reduceEqDiff, Nat.reduceBEq, Nat.reduceBNe, Nat.reduceGT, Nat.reduceDiv, Nat.reduceMod, Int.reduceAdd, Int.reduceSub, Int.reduceNeg, Int.reduceLT, Int.reduceLE, Int.reduceEq, Int.reduceToNat, fA, e1, e2, e3]
  refine ⟨fun h1 => ?_, fun h1 => hR _ (fin_of1 [some 112] ?_)⟩
  · have hst := blockAt_step (v := v) (x := x) (long := s.long) (kerf := s.kerf) (hi := hi) s2.1 s3.1 h1
    refine onF_data (spoilt_spec v x s.long y s.wide (by have := hv.sle; omega) (by omega) (by omega) (by omega) (by omega)) ?_ ?_
    · simp (maxSteps := 2000000) only [okA, ↓okP, Nat.reduceAdd, Nat.reduceMul, Nat.reduceSub, Nat.reduceLT, Nat.reduceLeDiff, Nat.reduceEqDiff, Nat.reduceBEq, ↓reduceIte, reduceCtorEq]
    cases hsp : spoilt v x s.long y s.wide with
    | some t =>
      obtain ⟨g1, sp, g2, g3⟩ := spoilt_gt hsp
      have g4 := hv.spoils sp g2
      rw [hsp] at hst
      simp (maxSteps := 2000000) only [vcA, ↓vcP, ↓reduceIte, reduceCtorEq, Nat.reduceAdd, Nat.reduceMul, Nat.reduceSub, Nat.reduceLT, Nat.reduceLeDiff, Nat.reduceEqDiff, Nat.reduceBEq, Nat.reduceBNe, Nat.reduceGT, Nat.reduceDiv, Nat.reduceMod, Int.reduceAdd, Int.reduceSub, Int.reduceNeg, Int.reduceLT, Int.reduceLE, Int.reduceEq, Int.reduceToNat, fA, e1, e2, e3]
      have q1 : 0 ≤ t := by omega
      have q2 : t ≤ 1000 := by omega
      have q3 : (acc.length : Int) ≤ t := by omega
      refine hB _ ⟨(t, acc), q1, q2, q3, by rw [hinv, hst]⟩ [some 112] ?_ rfl ?_
      · simp only; omega
      · simp (maxSteps := 2000000) only [enA, ↓enP, Nat.reduceAdd, Nat.reduceMul, Nat.reduceSub, Nat.reduceLT, Nat.reduceLeDiff, Nat.reduceEqDiff, Nat.reduceBEq, ↓reduceIte, reduceCtorEq, fA]
    | none =>
      rw [hsp] at hst
      simp (maxSteps := 2000000) only [vcA, ↓vcP, ↓reduceIte, reduceCtorEq, Nat.reduceAdd, Nat.reduceMul, Nat.reduceSub, Nat.reduceLT, Nat.reduceLeDiff, Nat.reduceEqDiff, Nat.reduceBEq, Nat.reduceBNe, Nat.reduceGT, Nat.reduceDiv, Nat.reduceMod, Int.reduceAdd, Int.reduceSub, Int.reduceNeg, Int.reduceLT, Int.reduceLE, Int.reduceEq, Int.reduceToNat, fA, e1, e2, e3]
      refine ⟨⟨by omega, hml⟩, fun _ => hB _ ⟨(y + (s.wide + s.kerf), acc ++ [y]), by omega, by omega, by simp; omega, by rw [hinv, hst]; simp⟩ [some 336] ?_ rfl ?_⟩
      · simp only; omega
      · simp (maxSteps := 2000000) only [enA, ↓enP, Nat.reduceAdd, Nat.reduceMul, Nat.reduceSub, Nat.reduceLT, Nat.reduceLeDiff, Nat.reduceEqDiff, Nat.reduceBEq, ↓reduceIte, reduceCtorEq, fA]
        simp [iR]
  · have hbe := blockAt_end (v := v) (x := x) (long := s.long) (kerf := s.kerf) (wide := s.wide) (hi := hi) (y := y) (by omega)
    rw [hinv, hbe, List.append_nil]
    simp (maxSteps := 2000000) only [enA, ↓enP, Nat.reduceAdd, Nat.reduceMul, Nat.reduceSub, Nat.reduceLT, Nat.reduceLeDiff, Nat.reduceEqDiff, Nat.reduceBEq, ↓reduceIte, reduceCtorEq, fA]
end Go.Proofs.Ytfaekiaegebmbaa.Ab
