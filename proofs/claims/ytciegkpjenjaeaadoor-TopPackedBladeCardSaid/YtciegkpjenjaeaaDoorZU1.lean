/- Contracts that all chapters use: lists of integers, looked through; numbers between two others. -/
import Derived.Test.YtciegkpjenjaeaaDoorZAbT
import Derived.Test.YtciegkpjenjaeaaDoorZAbU
namespace Go.Proofs.YtciegkpjenjaeaaDoor.Ab
open Go Go.RowKit
set_option linter.unusedVariables false
set_option linter.unusedSimpArgs false
set_option maxRecDepth 100000
def eqs : TypeId → Option (List Value) := fun _ => none
def iR (n : Int) : List DV := [.v (.int .i64 n)]
theorem nth_eq {α : Type} [Inhabited α] {l : List α} {i : Nat} (h : i < l.length) : l[i]? = some (nth l i) := by simp [nth, List.getD_eq_getElem?_getD, h]
theorem nth_mem {α : Type} [Inhabited α] {l : List α} {i : Nat} (h : i < l.length) : nth l i ∈ l := List.mem_of_getElem? (nth_eq h)
def bad (lo hi : Int) (n : Int) : Bool := decide (n < lo) || decide (n > hi)
def BadG (g : FuncId) : Prop := ∀ n lo hi : Int, SpecG Tryd.prog g [.v (.int .i64 n), .ptr 0 0, .ptr 1 0] [.box 3 [.v (.int .i64 lo)], .box 3 [.v (.int .i64 hi)]] (.v (.bool (bad lo hi n))) [.box 3 [.v (.int .i64 lo)], .box 3 [.v (.int .i64 hi)]]
def idxI {α : Type} (p : α → Bool) (l : List α) : Int := match l.findIdx? p with
  | some i => i
  | none => -1
theorem idxI_some {α : Type} [Inhabited α] {p : α → Bool} {l : List α} {i : Nat} (hi : i < l.length) (hp : p (nth l i) = true) (hx : ∀ j, j < i → p (nth l j) = false) : idxI p l = i := by
  have hg : ∀ j (h : j < l.length), l[j] = nth l j := fun j h => by
    have := nth_eq h
    rw [List.getElem?_eq_getElem h] at this
    exact Option.some.inj this
  have : l.findIdx? p = some i := by
    rw [List.findIdx?_eq_some_iff_getElem]
    refine ⟨hi, by rw [hg i hi]; exact hp, fun j hj => by rw [hg j (by omega), hx j hj]; simp⟩
  simp [idxI, this]
theorem idxI_none {α : Type} [Inhabited α] {p : α → Bool} {l : List α} (hx : ∀ j, j < l.length → p (nth l j) = false) : idxI p l = -1 := by
  have : l.findIdx? p = none := by
    rw [List.findIdx?_eq_none_iff]
    intro x hxm
    obtain ⟨j, hj, rfl⟩ := List.mem_iff_getElem.1 hxm
    have := nth_eq hj
    rw [List.getElem?_eq_getElem hj] at this
    rw [Option.some.inj this]
    exact hx j hj
  simp [idxI, this]
theorem index_spec {g : FuncId} (hg : BadG g) (lo hi : Int) (l : List Int) (hl : l.length < 1000000) : SpecG Tryd.prog 74 [.sl 1 (l.map iR), .fn g [.ptr 0 0, .ptr 1 0]] [.box 3 [.v (.int .i64 lo)], .box 3 [.v (.int .i64 hi)]] (.v (.int .i64 (idxI (bad lo hi) l))) [.box 3 [.v (.int .i64 lo)], .box 3 [.v (.int .i64 hi)]] := by
  refine spec_go (N := 19) (rs := [.tmp 4]) (eq := eqs) rfl rfl fun_74 rfl (by kernel_rfl) (by kernel_rfl) (by simp) (by simp) (by simp) (by simp) fun R hR => ?_
  simp (maxSteps := 2000000) only [vcA, ↓vcP, ↓reduceIte, reduceCtorEq, Nat.reduceAdd, Nat.reduceMul, Nat.reduceSub, Nat.reduceLT, Nat.reduceLeDiff, Nat.reduceEqDiff, Nat.reduceBEq, Nat.reduceBNe, Nat.reduceGT, Nat.reduceDiv, Nat.reduceMod, Int.reduceAdd, Int.reduceSub, Int.reduceNeg, Int.reduceLT, Int.reduceLE, Int.reduceEq, Int.reduceToNat, fA]
  refine goC_loop (α := {i : Nat // i ≤ l.length ∧ ∀ j, j < i → bad lo hi (nth l j) = false}) (fun x => ⟨[(0, .sl 1 (l.map iR)), (1, .fn g [.ptr 0 0, .ptr 1 0]), (7, .v (.int .i64 l.length)), (8, .v (.int .i64 x.1))], [(0, .box 3 [.v (.int .i64 lo)]), (1, .box 3 [.v (.int .i64 hi)])]⟩) (fun x => l.length - x.1) ⟨0, by omega, by omega⟩ [] ?_ ?_
  · simp (maxSteps := 2000000) only [enA, ↓enP, Nat.reduceAdd, Nat.reduceMul, Nat.reduceSub, Nat.reduceLT, Nat.reduceLeDiff, Nat.reduceEqDiff, Nat.reduceBEq, ↓reduceIte, reduceCtorEq, fA]
    rfl
  intro x B hB
  obtain ⟨i, hi', hx⟩ := x
  simp (maxSteps := 2000000) only [vcA, ↓vcP, ↓reduceIte, reduceCtorEq, Nat.reduceAdd, Nat.reduceMul, Nat.reduceSub, Nat.reduceLT, Nat.reduceLeDiff, Nat.reduceEqDiff, Nat.reduceBEq, Nat.reduceBNe, Nat.reduceGT, Nat.reduceDiv, Nat.reduceMod, Int.reduceAdd, Int.reduceSub, Int.reduceNeg, Int.reduceLT, Int.reduceLE, Int.reduceEq, Int.reduceToNat, fA, iR]
  refine ⟨fun h1 => ⟨h1, fun _ => ⟨h1, fun _ => ?_⟩⟩, fun h1 => hR _ (fin_of1 [] ?_)⟩
  · refine onF_call (hg (nth l i) lo hi) [] [] [0, 1] ?_ ?_
    · simp (maxSteps := 2000000) only [okA, ↓okP, Nat.reduceAdd, Nat.reduceMul, Nat.reduceSub, Nat.reduceLT, Nat.reduceLeDiff, Nat.reduceEqDiff, Nat.reduceBEq, ↓reduceIte, reduceCtorEq]
    · simp (maxSteps := 2000000) only [vcA, ↓vcP, ↓reduceIte, reduceCtorEq, Nat.reduceAdd, Nat.reduceMul, Nat.reduceSub, Nat.reduceLT, Nat.reduceLeDiff, Nat.reduceEqDiff, Nat.reduceBEq, Nat.reduceBNe, Nat.reduceGT, Nat.reduceDiv, Nat.reduceMod, Int.reduceAdd, Int.reduceSub, Int.reduceNeg, Int.reduceLT, Int.reduceLE, Int.reduceEq, Int.reduceToNat, fA]
      refine ⟨fun h => hR _ (fin_of1 [] ?_), fun h => hB _ ⟨i + 1, by omega, ?_⟩ [] ?_ rfl ?_⟩
      · simp (maxSteps := 2000000) only [enA, ↓enP, Nat.reduceAdd, Nat.reduceMul, Nat.reduceSub, Nat.reduceLT, Nat.reduceLeDiff, Nat.reduceEqDiff, Nat.reduceBEq, ↓reduceIte, reduceCtorEq, fA]
        rw [idxI_some h1 h hx]
      · intro j hj
        by_cases e : j = i
        · subst e; exact h
        · exact hx j (by omega)
      · simp only; omega
      · simp (maxSteps := 2000000) only [enA, ↓enP, Nat.reduceAdd, Nat.reduceMul, Nat.reduceSub, Nat.reduceLT, Nat.reduceLeDiff, Nat.reduceEqDiff, Nat.reduceBEq, ↓reduceIte, reduceCtorEq, fA]
        rw [IntKind.wrap_i64]; simp; omega
  · simp (maxSteps := 2000000) only [enA, ↓enP, Nat.reduceAdd, Nat.reduceMul, Nat.reduceSub, Nat.reduceLT, Nat.reduceLeDiff, Nat.reduceEqDiff, Nat.reduceBEq, ↓reduceIte, reduceCtorEq, fA]
    rw [idxI_none fun j hj => hx j (by omega)]
theorem contains_spec {g : FuncId} (hg : BadG g) (lo hi : Int) (l : List Int) (hl : l.length < 1000000) : SpecG Tryd.prog 49 [.sl 1 (l.map iR), .fn g [.ptr 0 0, .ptr 1 0]] [.box 3 [.v (.int .i64 lo)], .box 3 [.v (.int .i64 hi)]] (.v (.bool (decide (idxI (bad lo hi) l ≥ 0)))) [.box 3 [.v (.int .i64 lo)], .box 3 [.v (.int .i64 hi)]] := by
  refine spec_go (N := 9) (rs := [.tmp 4]) (eq := eqs) rfl rfl fun_49 rfl (by kernel_rfl) (by kernel_rfl) (by simp) (by simp) (by simp) (by simp) fun R hR => ?_
  simp (maxSteps := 2000000) only [vcA, ↓vcP, ↓reduceIte, reduceCtorEq, Nat.reduceAdd, Nat.reduceMul, Nat.reduceSub, Nat.reduceLT, Nat.reduceLeDiff, Nat.reduceEqDiff, Nat.reduceBEq, Nat.reduceBNe, Nat.reduceGT, Nat.reduceDiv, Nat.reduceMod, Int.reduceAdd, Int.reduceSub, Int.reduceNeg, Int.reduceLT, Int.reduceLE, Int.reduceEq, Int.reduceToNat, fA]
  refine onF_call (index_spec hg lo hi l hl) [] [] [0, 1] ?_ ?_
  · simp (maxSteps := 2000000) only [okA, ↓okP, Nat.reduceAdd, Nat.reduceMul, Nat.reduceSub, Nat.reduceLT, Nat.reduceLeDiff, Nat.reduceEqDiff, Nat.reduceBEq, ↓reduceIte, reduceCtorEq]
  · simp (maxSteps := 2000000) only [vcA, ↓vcP, ↓reduceIte, reduceCtorEq, Nat.reduceAdd, Nat.reduceMul, Nat.reduceSub, Nat.reduceLT, Nat.reduceLeDiff, Nat.reduceEqDiff, Nat.reduceBEq, Nat.reduceBNe, Nat.reduceGT, Nat.reduceDiv, Nat.reduceMod, Int.reduceAdd, Int.reduceSub, Int.reduceNeg, Int.reduceLT, Int.reduceLE, Int.reduceEq, Int.reduceToNat, fA]
    refine hR _ (fin_of1 [] ?_)
    simp (maxSteps := 2000000) only [enA, ↓enP, Nat.reduceAdd, Nat.reduceMul, Nat.reduceSub, Nat.reduceLT, Nat.reduceLeDiff, Nat.reduceEqDiff, Nat.reduceBEq, ↓reduceIte, reduceCtorEq, fA]
/-- All of them lie between. -/
def betw (lo hi : Int) (l : List Int) : Bool := l.all fun n => decide (lo ≤ n) && decide (n ≤ hi)
theorem betw_idx (lo hi : Int) (l : List Int) : (!decide (idxI (bad lo hi) l ≥ 0)) = betw lo hi l := by
  unfold idxI
  cases h : l.findIdx? (bad lo hi) with
  | none =>
    rw [List.findIdx?_eq_none_iff] at h
    have : betw lo hi l = true := by
      unfold betw
      rw [List.all_eq_true]
      intro n hn
      have := h n hn
      simp [bad] at this
      simp
      omega
    simp [this]
  | some i =>
    rw [List.findIdx?_eq_some_iff_getElem] at h
    obtain ⟨hi', hp, _⟩ := h
    have : betw lo hi l = false := by
      unfold betw
      rw [List.all_eq_false]
      refine ⟨l[i], List.getElem_mem hi', ?_⟩
      simp [bad] at hp
      simp
      omega
    simp [this]
theorem idx_any {α : Type} (p : α → Bool) (l : List α) : decide (idxI p l ≥ 0) = l.any p := by
  unfold idxI
  cases h : l.findIdx? p with
  | none =>
    rw [List.findIdx?_eq_none_iff] at h
    have : l.any p = false := by
      rw [List.any_eq_false]
      intro x hx
      simp [h x hx]
    rw [this]
    rfl
  | some i =>
    rw [List.findIdx?_eq_some_iff_getElem] at h
    obtain ⟨hi', hp, _⟩ := h
    have : l.any p = true := List.any_eq_true.2 ⟨_, List.getElem_mem hi', hp⟩
    rw [this]
    simp
theorem wrap_id {x : Int} (h0 : -9223372036854775808 ≤ x) (h1 : x ≤ 9223372036854775807) : IntKind.i64.wrap x = x := by rw [IntKind.wrap_i64]; omega
theorem quo_of {n o : Int} (hn : 0 ≤ n) : n.tdiv o = n / o := Int.tdiv_eq_ediv_of_nonneg hn
theorem rem_of {n o : Int} (hn : 0 ≤ n) : n.tmod o = n % o := Int.tmod_eq_emod_of_nonneg hn
theorem betw1 {lo hi n : Int} (h : betw lo hi [n] = true) : lo ≤ n ∧ n ≤ hi := by simpa [betw] using h
theorem betw2 {lo hi n m : Int} (h : betw lo hi [n, m] = true) : (lo ≤ n ∧ n ≤ hi) ∧ lo ≤ m ∧ m ≤ hi := by simpa [betw] using h
end Go.Proofs.YtciegkpjenjaeaaDoor.Ab
