/- The reference's block is the program's. The layout with the most sticks by the reference is the program's: plain. -/
import Derived.Test.YtafpicjnccffgaaZR9
namespace Go.Proofs.Ytafpicjnccffgaa.Ab.T01
open Go Go.RowKit
set_option linter.unusedSimpArgs false
set_option linter.unusedVariables false
set_option maxRecDepth 100000
theorem block3_spec (v : Vw) (s : Sw) (x : Nat) (hv : v.Ok) (hs : sawOk s = true) (hx : x + s.long.toNat ≤ v.bottom.length) : SpecF Try.prog 70 [.agg [.sl 1 (v.bottom.map iR), .sl 1 (v.top.map iR), .sl 6 (v.spoils.map refR)], .agg [.v (.int .i64 s.long), .v (.int .i64 s.wide), .v (.int .i64 s.kerf), .v (.int .i64 s.across)], .v (.int .i64 x)] (.sl 1 ((blockI v s x).map iR)) [] := by
  rw [← block_law hv hs hx]
  exact block2_spec v s x hv hs hx
theorem mostF_spec (b : Bl) (s : Sw) (h1 : b.bottom.length < 1000000) (h2 : b.top.length < 1000000) : SpecF Try.prog 22 [.agg [.sl 2 (b.bottom.map spR), .sl 2 (b.top.map spR), .v (.int .i64 b.bend), .sl 6 (b.cracks.map crR)], .agg [.v (.int .i64 s.long), .v (.int .i64 s.wide), .v (.int .i64 s.kerf), .v (.int .i64 s.across)]]
    (.tup [.sl 2 ((mostL b s).map plcR), .v (.int .i64 (openErr b s))]) [] := (mostB_spec b s h1 h2).frz
theorem curveF_spec (b : Bl) (h1 : b.bottom.length < 1000000) (h2 : b.top.length < 1000000) : SpecF Try.prog 32 [.agg [.sl 2 (b.bottom.map spR), .sl 2 (b.top.map spR), .v (.int .i64 b.bend), .sl 6 (b.cracks.map crR)]]
    (.tup [.sl 2 ((newLow b).map spR), .sl 2 ((newTop b).map spR), .v (.int .i64 (newErr b))]) [] := (curve_spec b h1 h2).frz
theorem costsF_spec (b : Bl) (s : Sw) (h1 : b.bottom.length < 1000000) (h2 : b.top.length < 1000000) : SpecF Try.prog 25 [.agg [.sl 2 (b.bottom.map spR), .sl 2 (b.top.map spR), .v (.int .i64 b.bend), .sl 6 (b.cracks.map crR)], .agg [.v (.int .i64 s.long), .v (.int .i64 s.wide), .v (.int .i64 s.kerf), .v (.int .i64 s.across)]]
    (.tup [.sl 1 ((costsL b s).map iR), .v (.int .i64 (openErr b s))]) [] := (costs_spec b s h1 h2).frz
end Go.Proofs.Ytafpicjnccffgaa.Ab.T01
namespace Go.Proofs.Ytafpicjnccffgaa.Ab.T01
open Go Go.RowKit
set_option linter.unusedSimpArgs false
set_option linter.unusedVariables false
theorem bst_mono1 {f : Nat → Nat} {n long step : Nat} (hs : 1 ≤ step) (hl : 1 ≤ long) (x : Nat) : bst f n long step (x + 1) ≤ bst f n long step x := by
  by_cases h : x + long ≤ n
  · rw [bst_step hs hl h]; omega
  · rw [bst_end (x := x + 1) (by omega)]; omega
theorem bst_mono {f : Nat → Nat} {n long step : Nat} (hs : 1 ≤ step) (hl : 1 ≤ long) (x : Nat) : ∀ d, bst f n long step (x + d) ≤ bst f n long step x
  | 0 => Nat.le_refl _
  | d + 1 => Nat.le_trans (bst_mono1 hs hl (x + d)) (bst_mono hs hl x d)
/-- The layout has as many sticks as there can be. -/
theorem mostG_len {f : Nat → List Int} {n long step : Nat} (hs : 1 ≤ step) (hl : 1 ≤ long) : ∀ (r x : Nat), n + 1 - x ≤ r → (mostG f n long step x).length = bst (fun x => (f x).length) n long step x
  | 0, x, h => by rw [mostG_end (by omega), bst_end (by omega)]; rfl
  | r + 1, x, h => by
    by_cases hc : x + long ≤ n
    · have i1 := mostG_len hs hl (f := f) (n := n) r (x + 1) (by omega)
      have i2 := mostG_len hs hl (f := f) (n := n) r (x + step) (by omega)
      have hm := bst_mono (f := fun x => (f x).length) (n := n) hs hl (x + 1) (step - 1)
      rw [show x + 1 + (step - 1) = x + step by omega] at hm
      have hst := bst_step (f := fun x => (f x).length) hs hl hc
      rw [mostG_step hs hl hc]
      split
      · rename_i h1
        rw [i1]
        omega
      · rename_i h1
        rw [List.length_append, List.length_map, i2]
        omega
    · rw [mostG_end (by omega), bst_end (by omega)]; rfl
/-- What the reference keeps of two layouts. -/
theorem mostG_ref {f : Nat → List Int} {n long step x : Nat} (hs : 1 ≤ step) (hl : 1 ≤ long) (hc : x + long ≤ n) :
    mostG f n long step x = if ((f x).map (fun y => ((x : Int), y)) ++ mostG f n long step (x + step)).length > (mostG f n long step (x + 1)).length ∨ ((f x).map (fun y => ((x : Int), y)) ++ mostG f n long step (x + step)).length = (mostG f n long step (x + 1)).length ∧ 0 < (f x).length
      then (f x).map (fun y => ((x : Int), y)) ++ mostG f n long step (x + step) else mostG f n long step (x + 1) := by
  have i1 := mostG_len hs hl (f := f) (n := n) _ (x + 1) (Nat.le_refl _)
  have i2 := mostG_len hs hl (f := f) (n := n) _ (x + step) (Nat.le_refl _)
  have hm := bst_mono (f := fun x => (f x).length) (n := n) hs hl (x + 1) (step - 1)
  rw [show x + 1 + (step - 1) = x + step by omega] at hm
  have hst := bst_step (f := fun x => (f x).length) hs hl hc
  rw [List.length_append, List.length_map, i1, i2]
  conv => lhs; rw [mostG_step hs hl hc]
  by_cases h1 : (f x).length + bst (fun x => (f x).length) n long step (x + step) < bst (fun x => (f x).length) n long step x ∨ (f x).length = 0
  · rw [if_pos h1, if_neg (by omega)]
  · rw [if_neg h1, if_pos (by omega)]
/-- The layouts as they are when all behind a column is known. -/
def laidL (f : Nat → List Int) (n long step N : Nat) (x : Int) : List (List (Int × Int)) := (List.range N).map fun i : Nat => if x < (i : Int) then mostG f n long step i else []
theorem laidL_length (f : Nat → List Int) (n long step N : Nat) (x : Int) : (laidL f n long step N x).length = N := by simp [laidL]
theorem laidL_nth {f : Nat → List Int} {n long step N : Nat} {x : Int} {i : Nat} (h : i < N) : nth (laidL f n long step N x) i = if x < (i : Int) then mostG f n long step i else [] := nth_range h
theorem laidL_set {f : Nat → List Int} {n long step N x : Nat} : (laidL f n long step N (x : Int)).set x (mostG f n long step x) = laidL f n long step N ((x : Int) - 1) := by
  refine list_ext (by simp [laidL]) fun k hk => ?_
  have hk' : k < N := by simpa [laidL] using hk
  rw [nth_set _ _ _ _ (by rw [laidL_length]; exact hk'), laidL_nth hk', laidL_nth hk']
  by_cases e : x = k
  · subst e; rw [if_pos rfl, if_pos (by omega)]
  · rw [if_neg e]
    by_cases e2 : (x : Int) < k
    · rw [if_pos e2, if_pos (by omega)]
    · rw [if_neg e2, if_neg (by omega)]
theorem laidL_end {f : Nat → List Int} {n long step N : Nat} {x : Int} (h : (n : Int) - long ≤ x) : laidL f n long step N x = List.replicate N [] := by
  refine list_ext (by simp [laidL]) fun k hk => ?_
  have hk' : k < N := by simpa [laidL] using hk
  rw [laidL_nth hk']
  have : nth (List.replicate N ([] : List (Int × Int))) k = [] := by
    unfold nth
    rw [List.getD_eq_getElem?_getD, List.getElem?_replicate, if_pos hk']
    rfl
  rw [this]
  split
  · rw [mostG_end (by omega)]
  · rfl
end Go.Proofs.Ytafpicjnccffgaa.Ab.T01
