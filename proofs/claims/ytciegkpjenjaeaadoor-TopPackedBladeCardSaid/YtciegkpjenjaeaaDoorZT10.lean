/- The contract of Bound. The most sticks from a column on, and the layout: plain. -/
import Derived.Test.YtciegkpjenjaeaaDoorZB4
namespace Go.Proofs.YtciegkpjenjaeaaDoor.Ab
open Go Go.RowKit
set_option linter.unusedVariables false
set_option linter.unusedSimpArgs false
set_option maxRecDepth 100000
theorem blockGo_len (v : Vw) (x long wide kerf hi : Int) : ∀ (f : Nat) (y : Int), (blockGo v x long wide kerf hi f y).length ≤ f
  | 0, _ => Nat.zero_le _
  | f + 1, y => by
    rw [blockGo]
    split
    · split
      · exact Nat.le_trans (blockGo_len v x long wide kerf hi f _) (Nat.le_succ f)
      · rw [List.length_cons]
        exact Nat.succ_le_succ (blockGo_len v x long wide kerf hi f _)
    · exact Nat.zero_le _
theorem blockI_len {v : Vw} {s : Sw} {x : Nat} (hv : v.Ok) (h1 : 1 ≤ s.long.toNat) (hx : x + s.long.toNat ≤ v.bottom.length) : (blockI v s x).length ≤ 301 := by
  have := room_bound hv h1 hx
  unfold blockI blockAt
  exact Nat.le_trans (blockGo_len _ _ _ _ _ _ _ _) (by omega)
theorem open_ok {b : Bl} {s : Sw} (h4 : openErr b s = 0) : newErr b = 0 ∧ sawOk s = true := by
  unfold openErr at h4
  split at h4
  · rename_i h5; exact absurd h4 h5
  · rename_i h5
    split at h4
    · rename_i h6; exact ⟨by simpa using h5, h6⟩
    · cases h4
end Go.Proofs.YtciegkpjenjaeaaDoor.Ab
namespace Go.Proofs.YtciegkpjenjaeaaDoor.Ab
open Go Go.RowKit
set_option linter.unusedVariables false
set_option linter.unusedSimpArgs false
/-- The most sticks from a column on, if a block at a column has so many (f), blocks are so long, and one begins so far (step) behind another. -/
def bstF (f : Nat → Nat) (n long step : Nat) : Nat → Nat → Nat
  | 0, _ => 0
  | g + 1, x => if x + long ≤ n then max (bstF f n long step g (x + 1)) (f x + bstF f n long step g (x + step)) else 0
def bst (f : Nat → Nat) (n long step x : Nat) : Nat := bstF f n long step (n + 1 - x) x
theorem bstF_fuel {f : Nat → Nat} {n long step : Nat} (hs : 1 ≤ step) (hl : 1 ≤ long) : ∀ (g g' x : Nat), n + 1 - x ≤ g → n + 1 - x ≤ g' → bstF f n long step g x = bstF f n long step g' x
  | 0, 0, _, _, _ => rfl
  | 0, g' + 1, x, h, _ => by rw [bstF, bstF, if_neg (by omega)]
  | g + 1, 0, x, _, h => by rw [bstF, bstF, if_neg (by omega)]
  | g + 1, g' + 1, x, h, h' => by
    rw [bstF, bstF]
    by_cases hc : x + long ≤ n
    · rw [if_pos hc, if_pos hc, bstF_fuel hs hl g g' (x + 1) (by omega) (by omega), bstF_fuel hs hl g g' (x + step) (by omega) (by omega)]
    · rw [if_neg hc, if_neg hc]
theorem bst_end {f : Nat → Nat} {n long step x : Nat} (h : n < x + long) : bst f n long step x = 0 := by
  unfold bst
  cases n + 1 - x with
  | zero => rfl
  | succ g => rw [bstF, if_neg (by omega)]
theorem bst_step {f : Nat → Nat} {n long step x : Nat} (hs : 1 ≤ step) (hl : 1 ≤ long) (h : x + long ≤ n) : bst f n long step x = max (bst f n long step (x + 1)) (f x + bst f n long step (x + step)) := by
  unfold bst
  have e : n + 1 - x = (n - x) + 1 := by omega
  rw [e, bstF, if_pos h, bstF_fuel hs hl (n - x) (n + 1 - (x + 1)) (x + 1) (by omega) (by omega), bstF_fuel hs hl (n - x) (n + 1 - (x + step)) (x + step) (by omega) (by omega)]
theorem bstF_le {f : Nat → Nat} {n long step c : Nat} (hs : 1 ≤ step) (hf : ∀ x, x + long ≤ n → f x ≤ c) : ∀ (g x : Nat), bstF f n long step g x ≤ c * g
  | 0, _ => Nat.zero_le _
  | g + 1, x => by
    rw [bstF, Nat.mul_succ]
    split
    · rename_i h
      have h1 := bstF_le hs hf g (x + 1)
      have h2 := bstF_le hs hf g (x + step)
      have h3 := hf x h
      omega
    · exact Nat.zero_le _
theorem bst_le {f : Nat → Nat} {n long step c : Nat} (hs : 1 ≤ step) (hf : ∀ x, x + long ≤ n → f x ≤ c) (x : Nat) : bst f n long step x ≤ c * (n + 1) :=
  Nat.le_trans (bstF_le hs hf _ _) (Nat.mul_le_mul_left _ (by omega))
/-- The array as it is when all behind a column is known. -/
def bestL (f : Nat → Nat) (n long step N : Nat) (x : Int) : List Int := (List.range N).map fun i : Nat => if x < (i : Int) then (bst f n long step i : Int) else 0
theorem bestL_length (f : Nat → Nat) (n long step N : Nat) (x : Int) : (bestL f n long step N x).length = N := by simp [bestL]
theorem bestL_nth {f : Nat → Nat} {n long step N : Nat} {x : Int} {i : Nat} (h : i < N) : nth (bestL f n long step N x) i = if x < (i : Int) then (bst f n long step i : Int) else 0 := by
  unfold nth bestL
  rw [List.getD_eq_getElem?_getD, List.getElem?_map, List.getElem?_range h]
  rfl
theorem bestL_set {f : Nat → Nat} {n long step N x : Nat} : (bestL f n long step N (x : Int)).set x (bst f n long step x : Int) = bestL f n long step N ((x : Int) - 1) := by
  apply List.ext_getElem?
  intro i
  unfold bestL
  rw [List.getElem?_set, List.length_map, List.length_range]
  by_cases hx : x = i
  · subst hx
    rw [if_pos rfl]
    by_cases hn : x < N
    · rw [if_pos hn, List.getElem?_map, List.getElem?_range hn, Option.map_some, if_pos (by omega)]
    · rw [if_neg hn, List.getElem?_eq_none (by simp; omega)]
  · rw [if_neg hx, List.getElem?_map, List.getElem?_map]
    cases hr : (List.range N)[i]? with
    | none => rfl
    | some j =>
      have hj : j = i := by
        have := List.getElem?_eq_some_iff.1 hr
        obtain ⟨h1, h2⟩ := this
        simpa using h2.symm
      subst hj
      simp only [Option.map_some, Option.some.injEq]
      by_cases hc : (x : Int) < (j : Int)
      · rw [if_pos hc, if_pos (by omega)]
      · rw [if_neg hc, if_neg (by omega)]
theorem bestL_end {f : Nat → Nat} {n long step N : Nat} {x : Int} (h : (n : Int) - long ≤ x) : bestL f n long step N x = List.replicate N 0 := by
  apply List.ext_getElem?
  intro i
  unfold bestL
  rw [List.getElem?_map, List.getElem?_replicate]
  by_cases hi : i < N
  · rw [List.getElem?_range hi, if_pos hi]
    simp only [Option.map_some, Option.some.injEq]
    split
    · rw [bst_end (by omega)]; rfl
    · rfl
  · rw [List.getElem?_eq_none (by simp; omega), if_neg hi]
    rfl
/-- The layout with the most sticks, from a column on. -/
def mostF (f : Nat → List Int) (n long step : Nat) : Nat → Nat → List (Int × Int)
  | 0, _ => []
  | g + 1, x => if x + long ≤ n then
      if (f x).length + bst (fun x => (f x).length) n long step (x + step) < bst (fun x => (f x).length) n long step x ∨ (f x).length = 0 then mostF f n long step g (x + 1)
      else (f x).map (fun y => ((x : Int), y)) ++ mostF f n long step g (x + step)
    else []
def mostG (f : Nat → List Int) (n long step x : Nat) : List (Int × Int) := mostF f n long step (n + 1 - x) x
theorem mostF_fuel {f : Nat → List Int} {n long step : Nat} (hs : 1 ≤ step) (hl : 1 ≤ long) : ∀ (g g' x : Nat), n + 1 - x ≤ g → n + 1 - x ≤ g' → mostF f n long step g x = mostF f n long step g' x
  | 0, 0, _, _, _ => rfl
  | 0, g' + 1, x, h, _ => by rw [mostF, mostF, if_neg (by omega)]
  | g + 1, 0, x, _, h => by rw [mostF, mostF, if_neg (by omega)]
  | g + 1, g' + 1, x, h, h' => by
    rw [mostF, mostF]
    by_cases hc : x + long ≤ n
    · rw [if_pos hc, if_pos hc, mostF_fuel hs hl g g' (x + 1) (by omega) (by omega), mostF_fuel hs hl g g' (x + step) (by omega) (by omega)]
    · rw [if_neg hc, if_neg hc]
theorem mostG_end {f : Nat → List Int} {n long step x : Nat} (h : n < x + long) : mostG f n long step x = [] := by
  unfold mostG
  cases n + 1 - x with
  | zero => rfl
  | succ g => rw [mostF, if_neg (by omega)]
theorem mostG_step {f : Nat → List Int} {n long step x : Nat} (hs : 1 ≤ step) (hl : 1 ≤ long) (h : x + long ≤ n) : mostG f n long step x =
    if (f x).length + bst (fun x => (f x).length) n long step (x + step) < bst (fun x => (f x).length) n long step x ∨ (f x).length = 0 then mostG f n long step (x + 1)
      else (f x).map (fun y => ((x : Int), y)) ++ mostG f n long step (x + step) := by
  unfold mostG
  have e : n + 1 - x = (n - x) + 1 := by omega
  rw [e, mostF, if_pos h, mostF_fuel hs hl (n - x) (n + 1 - (x + 1)) (x + 1) (by omega) (by omega), mostF_fuel hs hl (n - x) (n + 1 - (x + step)) (x + step) (by omega) (by omega)]
theorem mostF_le {f : Nat → List Int} {n long step c : Nat} (hs : 1 ≤ step) (hf : ∀ x, x + long ≤ n → (f x).length ≤ c) : ∀ (g x : Nat), (mostF f n long step g x).length ≤ c * g
  | 0, _ => Nat.zero_le _
  | g + 1, x => by
    rw [mostF, Nat.mul_succ]
    split
    · rename_i h
      split
      · exact Nat.le_trans (mostF_le hs hf g (x + 1)) (by omega)
      · have h2 := mostF_le hs hf g (x + step)
        have h3 := hf x h
        rw [List.length_append, List.length_map]
        omega
    · exact Nat.zero_le _
theorem mostG_le {f : Nat → List Int} {n long step c : Nat} (hs : 1 ≤ step) (hf : ∀ x, x + long ≤ n → (f x).length ≤ c) (x : Nat) : (mostG f n long step x).length ≤ c * (n + 1) :=
  Nat.le_trans (mostF_le hs hf _ _) (Nat.mul_le_mul_left _ (by omega))
/-- The blocks that are known. -/
def blkF (v : Vw) (s : Sw) (x : Int) : Int → Option DV := fun y => if x < y ∧ y + s.long ≤ v.bottom.length then some (.sl 1 ((blockI v s y.toNat).map iR)) else none
theorem blkF_end {v : Vw} {s : Sw} {x : Int} (h : (v.bottom.length : Int) - s.long ≤ x) : blkF v s x = fun _ => none := by
  funext y
  unfold blkF
  rw [if_neg (by omega)]
theorem blkF_set {v : Vw} {s : Sw} {x : Nat} (h : (x : Int) + s.long ≤ v.bottom.length) : mset (blkF v s x) x (.sl 1 ((blockI v s x).map iR)) = blkF v s ((x : Int) - 1) := by
  funext y
  unfold mset blkF
  by_cases hy : y = x
  · subst hy
    rw [if_pos rfl, if_pos (by omega)]
    rfl
  · rw [if_neg hy]
    by_cases hc : (x : Int) < y ∧ y + s.long ≤ v.bottom.length
    · rw [if_pos hc, if_pos (by omega)]
    · rw [if_neg hc, if_neg (by omega)]
theorem blkF_get {v : Vw} {s : Sw} {x : Int} {y : Nat} (h : x < y) (h2 : (y : Int) + s.long ≤ v.bottom.length) : blkF v s x y = some (.sl 1 ((blockI v s y).map iR)) := by
  unfold blkF
  rw [if_pos ⟨h, h2⟩]
  rfl
def plcR (p : Int × Int) : List DV := [.v (.int .i64 p.1), .v (.int .i64 p.2)]
def stepN (s : Sw) : Nat := (s.long + s.across).toNat
/-- The layout of a view with the most sticks. -/
def mostI (v : Vw) (s : Sw) : List (Int × Int) := mostG (blockI v s) v.bottom.length s.long.toNat (stepN s) 0
end Go.Proofs.YtciegkpjenjaeaaDoor.Ab
