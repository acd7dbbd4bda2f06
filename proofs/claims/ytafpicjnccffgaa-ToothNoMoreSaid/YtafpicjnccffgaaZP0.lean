/- The reference's block is the program's. The layout with the most sticks by the reference is the program's: plain. The widest sticks by the reference are the program's: plain. The bound by the reference is the program's: plain. -/
import Derived.Test.YtafpicjnccffgaaZR9
namespace Go.Proofs.Ytafpicjnccffgaa.Ab.T01
open Go Go.RowKit
set_option linter.unusedSimpArgs false
set_option linter.unusedVariables false
set_option maxRecDepth 100000
theorem block3_spec (v : Vw) (s : Sw) (x : Nat) (hv : v.Ok) (hs : sawOk s = true) (hx : x + s.long.toNat ≤ v.bottom.length) : SpecF Try.prog 70 [.agg [.sl 1 (v.bottom.map iR), .sl 1 (v.top.map iR), .sl 6 (v.spoils.map refR)], .agg [.v (.int .i64 s.long), .v (.int .i64 s.wide), .v (.int .i64 s.kerf), .v (.int .i64 s.across)], .v (.int .i64 x)] (.sl 1 ((blockI v s x).map iR)) [] := by
  rw [← block_law hv hs hx]
  exact block2_spec v s x hv hs hx
theorem mostF_spec (b : Bl) (s : Sw) (h1 : b.bottom.length < 1000000) (h2 : b.top.length < 1000000) : SpecF Try.prog 22 [.agg [.sl 2 (b.bottom.map spR), .sl 2 (b.top.map spR), .v (.int .i64 b.bend), .sl 6 (b.cracks.map crR)], .agg [.v (.int .i64 s.long), .v (.int .i64 s.wide), .v (.int .i64 s.kerf), .v (.int .i64 s.across)]]
    (.tup [.sl 2 ((mostL b s).map plcR), .v (.int .i64 (openErr b s))]) [] := (mostB_spec b s h1 h2).frz
theorem curveF_spec (b : Bl) (h1 : b.bottom.length < 1000000) (h2 : b.top.length < 1000000) : SpecF Try.prog 32 [.agg [.sl 2 (b.bottom.map spR), .sl 2 (b.top.map spR), .v (.int .i64 b.bend), .sl 6 (b.cracks.map crR)]]
    (.tup [.sl 2 ((newLow b).map spR), .sl 2 ((newTop b).map spR), .v (.int .i64 (newErr b))]) [] := (curve_spec b h1 h2).frz
theorem costsF_spec (b : Bl) (s : Sw) (h1 : b.bottom.length < 1000000) (h2 : b.top.length < 1000000) : SpecF Try.prog 25 [.agg [.sl 2 (b.bottom.map spR), .sl 2 (b.top.map spR), .v (.int .i64 b.bend), .sl 6 (b.cracks.map crR)], .agg [.v (.int .i64 s.long), .v (.int .i64 s.wide), .v (.int .i64 s.kerf), .v (.int .i64 s.across)]]
    (.tup [.sl 1 ((costsL b s).map iR), .v (.int .i64 (openErr b s))]) [] := (costs_spec b s h1 h2).frz
end Go.Proofs.Ytafpicjnccffgaa.Ab.T01
namespace Go.Proofs.Ytafpicjnccffgaa.Ab.T01
open Go Go.RowKit
set_option linter.unusedSimpArgs false
set_option linter.unusedVariables false
theorem bst_mono1 {f : Nat → Nat} {n long step : Nat} (hs : 1 ≤ step) (hl : 1 ≤ long) (x : Nat) : bst f n long step (x + 1) ≤ bst f n long step x := by
  by_cases h : x + long ≤ n
  · rw [bst_step hs hl h]; omega
  · rw [bst_end (x := x + 1) (by omega)]; omega
theorem bst_mono {f : Nat → Nat} {n long step : Nat} (hs : 1 ≤ step) (hl : 1 ≤ long) (x : Nat) : ∀ d, bst f n long step (x + d) ≤ bst f n long step x
  | 0 => Nat.le_refl _
  | d + 1 => Nat.le_trans (bst_mono1 hs hl (x + d)) (bst_mono hs hl x d)
/-- The layout has as many sticks as there can be. -/
theorem mostG_len {f : Nat → List Int} {n long step : Nat} (hs : 1 ≤ step) (hl : 1 ≤ long) : ∀ (r x : Nat), n + 1 - x ≤ r → (mostG f n long step x).length = bst (fun x => (f x).length) n long step x
  | 0, x, h => by rw [mostG_end (by omega), bst_end (by omega)]; rfl
  | r + 1, x, h => by
    by_cases hc : x + long ≤ n
    · have i1 := mostG_len hs hl (f := f) (n := n) r (x + 1) (by omega)
      have i2 := mostG_len hs hl (f := f) (n := n) r (x + step) (by omega)
      have hm := bst_mono (f := fun x => (f x).length) (n := n) hs hl (x + 1) (step - 1)
      rw [show x + 1 + (step - 1) = x + step by omega] at hm
      have hst := bst_step (f := fun x => (f x).length) hs hl hc
      rw [mostG_step hs hl hc]
      split
      · rename_i h1
        rw [i1]
        omega
      · rename_i h1
        rw [List.length_append, List.length_map, i2]
        omega
    · rw [mostG_end (by omega), bst_end (by omega)]; rfl
/-- What the reference keeps of two layouts. -/
theorem mostG_ref {f : Nat → List Int} {n long step x : Nat} (hs : 1 ≤ step) (hl : 1 ≤ long) (hc : x + long ≤ n) :
    mostG f n long step x = if ((f x).map (fun y => ((x : Int), y)) ++ mostG f n long step (x + step)).length > (mostG f n long step (x + 1)).length ∨ ((f x).map (fun y => ((x : Int), y)) ++ mostG f n long step (x + step)).length = (mostG f n long step (x + 1)).length ∧ 0 < (f x).length
      then (f x).map (fun y => ((x : Int), y)) ++ mostG f n long step (x + step) else mostG f n long step (x + 1) := by
  have i1 := mostG_len hs hl (f := f) (n := n) _ (x + 1) (Nat.le_refl _)
  have i2 := mostG_len hs hl (f := f) (n := n) _ (x + step) (Nat.le_refl _)
  have hm := bst_mono (f := fun x => (f x).length) (n := n) hs hl (x + 1) (step - 1)
  rw [show x + 1 + (step - 1) = x + step by omega] at hm
  have hst := bst_step (f := fun x => (f x).length) hs hl hc
  rw [List.length_append, List.length_map, i1, i2]
  conv => lhs; rw [mostG_step hs hl hc]
  by_cases h1 : (f x).length + bst (fun x => (f x).length) n long step (x + step) < bst (fun x => (f x).length) n long step x ∨ (f x).length = 0
  · rw [if_pos h1, if_neg (by omega)]
  · rw [if_neg h1, if_pos (by omega)]
/-- The layouts as they are when all behind a column is known. -/
def laidL (f : Nat → List Int) (n long step N : Nat) (x : Int) : List (List (Int × Int)) := (List.range N).map fun i : Nat => if x < (i : Int) then mostG f n long step i else []
theorem laidL_length (f : Nat → List Int) (n long step N : Nat) (x : Int) : (laidL f n long step N x).length = N := by simp [laidL]
theorem laidL_nth {f : Nat → List Int} {n long step N : Nat} {x : Int} {i : Nat} (h : i < N) : nth (laidL f n long step N x) i = if x < (i : Int) then mostG f n long step i else [] := nth_range h
theorem laidL_set {f : Nat → List Int} {n long step N x : Nat} : (laidL f n long step N (x : Int)).set x (mostG f n long step x) = laidL f n long step N ((x : Int) - 1) := by
  refine list_ext (by simp [laidL]) fun k hk => ?_
  have hk' : k < N := by simpa [laidL] using hk
  rw [nth_set _ _ _ _ (by rw [laidL_length]; exact hk'), laidL_nth hk', laidL_nth hk']
  by_cases e : x = k
  · subst e; rw [if_pos rfl, if_pos (by omega)]
  · rw [if_neg e]
    by_cases e2 : (x : Int) < k
    · rw [if_pos e2, if_pos (by omega)]
    · rw [if_neg e2, if_neg (by omega)]
theorem laidL_end {f : Nat → List Int} {n long step N : Nat} {x : Int} (h : (n : Int) - long ≤ x) : laidL f n long step N x = List.replicate N [] := by
  refine list_ext (by simp [laidL]) fun k hk => ?_
  have hk' : k < N := by simpa [laidL] using hk
  rw [laidL_nth hk']
  have : nth (List.replicate N ([] : List (Int × Int))) k = [] := by
    unfold nth
    rw [List.getD_eq_getElem?_getD, List.getElem?_replicate, if_pos hk']
    rfl
  rw [this]
  split
  · rw [mostG_end (by omega)]
  · rfl
end Go.Proofs.Ytafpicjnccffgaa.Ab.T01
namespace Go.Proofs.Ytafpicjnccffgaa.Ab.T01
open Go Go.RowKit
set_option linter.unusedSimpArgs false
set_option linter.unusedVariables false
theorem grd_length {g : Int → Bool} {st : Nat} (hs : 1 ≤ st) : ∀ (r y : Nat), 301 - y ≤ r → (grd g st y).length = mny g st y
  | 0, y, h => by rw [grd_end (by omega), mny_end (by omega)]; rfl
  | r + 1, y, h => by
    by_cases hy : y ≤ 300
    · rw [grd_step hs hy]
      by_cases hg : g y = true
      · rw [if_pos hg, mny_fine hs hy hg, List.length_cons, grd_length hs r (y + st) (by omega)]
        omega
      · rw [if_neg hg, mny_step hs hy, if_neg hg, grd_length hs r (y + 1) (by omega)]
    · rw [grd_end (by omega), mny_end (by omega)]; rfl
theorem mny_less {g g' : Int → Bool} {st st' : Nat} (hs : 1 ≤ st) (hst : st ≤ st') (hg : ∀ y, g' y = true → g y = true) : ∀ (r y : Nat), 301 - y ≤ r → mny g' st' y ≤ mny g st y
  | 0, y, h => by rw [mny_end (by omega)]; omega
  | r + 1, y, h => by
    by_cases hy : y ≤ 300
    · have i1 := mny_less hs hst hg r (y + 1) (by omega)
      have i2 := mny_less hs hst hg r (y + st') (by omega)
      have hm := mny_mono (g := g) hs (y + st) (st' - st)
      rw [show y + st + (st' - st) = y + st' by omega] at hm
      rw [mny_step0 (by omega) hy, mny_step0 hs hy]
      have ho : oneF g' y ≤ oneF g y := by
        unfold oneF
        by_cases h1 : g' y = true
        · rw [if_pos h1, if_pos (hg _ h1)]; omega
        · rw [if_neg h1]; omega
      omega
    · rw [mny_end (by omega)]; omega
theorem bst_less {f f' : Nat → Nat} {n long step step' : Nat} (hs : 1 ≤ step) (hst : step ≤ step') (hl : 1 ≤ long) (hf : ∀ x, x + long ≤ n → f' x ≤ f x) : ∀ (r x : Nat), n + 1 - x ≤ r → bst f' n long step' x ≤ bst f n long step x
  | 0, x, h => by rw [bst_end (by omega)]; omega
  | r + 1, x, h => by
    by_cases hc : x + long ≤ n
    · have i1 := bst_less hs hst hl hf r (x + 1) (by omega)
      have i2 := bst_less hs hst hl hf r (x + step') (by omega)
      have hm := bst_mono (f := f) (n := n) hs hl (x + step) (step' - step)
      rw [show x + step + (step' - step) = x + step' by omega] at hm
      rw [bst_step (by omega) hl hc, bst_step hs hl hc]
      have := hf x hc
      omega
    · rw [bst_end (by omega)]; omega
theorem refSound_less {v : Vw} {long : Nat} {wide wide' : Int} {x : Nat} {y : Int} (hw : wide ≤ wide') (h : refSound v long wide' x y = true) : refSound v long wide x y = true := by
  unfold refSound at h ⊢
  rw [List.all_eq_true] at h ⊢
  intro d hd
  have := h d hd
  unfold colOk at this ⊢
  simp only [Bool.and_eq_true, decide_eq_true_eq] at this ⊢
  refine ⟨⟨this.1.1, by omega⟩, ?_⟩
  have h2 := this.2
  rw [List.all_eq_true] at h2 ⊢
  intro sp hsp
  have := h2 sp hsp
  simp only [Bool.not_eq_true', Bool.and_eq_false_iff, decide_eq_false_iff_not] at this ⊢
  rcases this with (h3 | h3) | h3
  · exact .inl (.inl h3)
  · exact .inl (.inr h3)
  · exact .inr (by omega)
/-- A saw for sticks of a width. -/
def wideS (s : Sw) (w : Int) : Sw := { s with wide := w }
theorem wideS_ok {s : Sw} {w : Int} (hs : sawOk s = true) (hw : 1 ≤ w ∧ w ≤ 300) : sawOk (wideS s w) = true := by
  unfold sawOk at hs ⊢
  simp only [Bool.and_eq_true] at hs ⊢
  refine ⟨⟨hs.1.1, ?_⟩, hs.2⟩
  simp [betw, wideS, hw]
theorem most_less {v : Vw} {s : Sw} {w w' : Int} (hv : v.Ok) (hs : sawOk s = true) (h1 : 1 ≤ w) (h2 : w ≤ w') (h3 : w' ≤ 300) : (mostI v (wideS s w')).length ≤ (mostI v (wideS s w)).length := by
  have o1 := wideS_ok (w := w) hs ⟨h1, by omega⟩
  have o2 := wideS_ok (w := w') hs ⟨by omega, h3⟩
  have hs0 := hs
  unfold sawOk at hs0
  simp only [Bool.and_eq_true] at hs0
  have s1 := betw1 hs0.1.1
  have s3 := betw2 hs0.2
  have hst : 1 ≤ stepN s := by unfold stepN; omega
  unfold mostI
  rw [mostG_len (by exact hst) (by show 1 ≤ s.long.toNat; omega) _ 0 (Nat.le_refl _), mostG_len (by exact hst) (by show 1 ≤ s.long.toNat; omega) _ 0 (Nat.le_refl _)]
  refine bst_less (step := stepN s) (step' := stepN s) hst (Nat.le_refl _) (by show 1 ≤ s.long.toNat; omega) (fun x hx => ?_) _ 0 (Nat.le_refl _)
  have hx : x + s.long.toNat ≤ v.bottom.length := hx
  show (blockI v (wideS s w') x).length ≤ (blockI v (wideS s w) x).length
  rw [← block_law hv o1 (x := x) hx, ← block_law hv o2 (x := x) hx]
  have t1 : 1 ≤ stN (wideS s w) := by unfold stN wideS; simp only; omega
  have t2 : stN (wideS s w) ≤ stN (wideS s w') := by unfold stN wideS; simp only; omega
  rw [grd_length t1 _ 0 (Nat.le_refl _), grd_length (by omega) _ 0 (Nat.le_refl _)]
  exact mny_less t1 t2 (fun y hy => refSound_less (by exact h2) hy) _ 0 (Nat.le_refl _)
/-- The widest sticks, as the reference finds them. -/
def widR (e : Int → Bool) : Nat → Int
  | 0 => 0
  | w + 1 => if e ((w + 1 : Nat) : Int) then ((w + 1 : Nat) : Int) else widR e w
theorem widR_skip {e : Int → Bool} : ∀ (d lo : Nat), (∀ w : Nat, lo < w → w ≤ lo + d → e w = false) → widR e (lo + d) = widR e lo
  | 0, _, _ => rfl
  | d + 1, lo, h => by
    rw [← Nat.add_assoc, widR, if_neg (by rw [h (lo + d + 1) (by omega) (by omega)]; simp)]
    exact widR_skip d lo fun w h1 h2 => h w h1 (by omega)
def enoughB (v : Vw) (s : Sw) (sticks : Int) (w : Int) : Bool := decide (((mostI v (wideS s w)).length : Int) ≥ sticks)
theorem wide_law {v : Vw} {s : Sw} {sticks : Int} (hv : v.Ok) (hs : sawOk s = true) : ∀ (m : Nat) (lo hi : Int), (hi - lo).toNat ≤ m → 0 ≤ lo → lo ≤ hi → hi ≤ 300 → (lo = 0 ∨ enoughB v s sticks lo = true) → (∀ w : Nat, hi < w → w ≤ 300 → enoughB v s sticks w = false) → wideI v s sticks lo hi = widR (enoughB v s sticks) 300 := by
  have fin : ∀ lo hi : Int, 0 ≤ lo → lo ≤ hi → hi ≤ 300 → ¬ lo < hi → (lo = 0 ∨ enoughB v s sticks lo = true) → (∀ w : Nat, hi < w → w ≤ 300 → enoughB v s sticks w = false) → wideI v s sticks lo hi = widR (enoughB v s sticks) 300 := fun lo hi h1 h2 h3 h4 h5 h6 => by
    rw [wideI_end h4]
    obtain ⟨L, rfl⟩ : ∃ L : Nat, lo = L := ⟨lo.toNat, by omega⟩
    have := widR_skip (e := enoughB v s sticks) (300 - L) L (fun w g1 g2 => h6 w (by omega) (by omega))
    rw [show L + (300 - L) = 300 by omega] at this
    rw [this]
    cases L with
    | zero => rfl
    | succ L =>
      rw [widR, if_pos]
      rcases h5 with h5 | h5
      · omega
      · exact h5
  intro m
  induction m with
  | zero =>
    intro lo hi hm h1 h2 h3 h5 h6
    exact fin lo hi h1 h2 h3 (by omega) h5 h6
  | succ m ih =>
    intro lo hi hm h1 h2 h3 h5 h6
    by_cases hc : lo < hi
    · rw [wideI_step hc]
      by_cases he : ((mostI v { s with wide := (lo + hi + 1) / 2 }).length : Int) ≥ sticks
      · rw [if_pos he]
        exact ih _ _ (by omega) (by omega) (by omega) h3 (.inr (decide_eq_true he)) h6
      · rw [if_neg he]
        refine ih _ _ (by omega) h1 (by omega) (by omega) h5 fun w hw1 hw2 => ?_
        have := most_less (w := (lo + hi + 1) / 2) (w' := (w : Int)) hv hs (by omega) (by omega) (by omega)
        unfold enoughB
        refine decide_eq_false ?_
        have he : ¬ ((mostI v (wideS s ((lo + hi + 1) / 2))).length : Int) ≥ sticks := he
        omega
    · exact fin lo hi h1 h2 h3 hc h5 h6
end Go.Proofs.Ytafpicjnccffgaa.Ab.T01
namespace Go.Proofs.Ytafpicjnccffgaa.Ab.T01
open Go Go.RowKit
set_option linter.unusedSimpArgs false
set_option linter.unusedVariables false
/-- The sticks of the columns before i that are in the class r. -/
def clsS (f : Nat → Nat) (n long r : Nat) : Nat → Int
  | 0 => 0
  | i + 1 => clsS f n long r i + (if i % long = r ∧ i < n then (f i : Int) else 0)
theorem clsS_skip {f : Nat → Nat} {n long r : Nat} : ∀ (d i : Nat), (∀ j, i ≤ j → j < i + d → ¬ (j % long = r ∧ j < n)) → clsS f n long r (i + d) = clsS f n long r i
  | 0, _, _ => rfl
  | d + 1, i, h => by
    rw [← Nat.add_assoc, clsS, if_neg (h (i + d) (by omega) (by omega)), Int.add_zero]
    exact clsS_skip d i fun j h1 h2 => h j h1 (by omega)
theorem clsS_end {f : Nat → Nat} {n long r x : Nat} (h : n ≤ x) : clsS f n long r x = clsS f n long r n := by
  have := clsS_skip (f := f) (n := n) (long := long) (r := r) (x - n) n (fun j h1 _ h2 => by omega)
  rw [show n + (x - n) = x by omega] at this
  exact this
theorem clsS_first {f : Nat → Nat} {n long r : Nat} (hr : r < long) : clsS f n long r r = 0 := by
  have := clsS_skip (f := f) (n := n) (long := long) (r := r) r 0 (fun j h1 h2 h3 => by
    rw [Nat.mod_eq_of_lt (by omega)] at h3
    omega)
  rw [Nat.zero_add] at this
  exact this
theorem clsS_step {f : Nat → Nat} {n long r x : Nat} (hl : 1 ≤ long) (hx : x % long = r) (hn : x < n) : clsS f n long r (x + long) = clsS f n long r x + f x := by
  have := clsS_skip (f := f) (n := n) (long := long) (r := r) (long - 1) (x + 1) (fun j h1 h2 h3 => by
    have e : j % long = ((x % long) + (j - x)) % long := by
      rw [Nat.mod_add_mod]
      congr 1
      omega
    have hlt : x % long < long := Nat.mod_lt _ (by omega)
    rw [e, hx] at h3
    rw [hx] at hlt
    by_cases hc : r + (j - x) < long
    · rw [Nat.mod_eq_of_lt hc] at h3; omega
    · rw [Nat.mod_eq_sub_mod (by omega), Nat.mod_eq_of_lt (by omega)] at h3; omega)
  rw [show x + 1 + (long - 1) = x + long by omega] at this
  rw [this, clsS, if_pos ⟨hx, hn⟩]
theorem clsS_nonneg {f : Nat → Nat} {n long r : Nat} : ∀ i, 0 ≤ clsS f n long r i
  | 0 => Int.le_refl _
  | i + 1 => by
    have := clsS_nonneg (f := f) (n := n) (long := long) (r := r) i
    rw [clsS]
    split <;> omega
theorem sumsTo_cls {v : Vw} {s : Sw} (hl : 1 ≤ s.long.toNat) (n r : Nat) (hr : r < s.long.toNat) : ∀ i, i ≤ n → nth (sumsTo v s i) r = clsS (fun x => (blockI v (oneS s) x).length) n s.long.toNat r i
  | 0, _ => by
    rw [sumsTo, clsS]
    unfold nth
    rw [List.getD_eq_getElem?_getD, List.getElem?_replicate, if_pos hr]
    rfl
  | i + 1, hi => by
    have elv : ∀ (i : Nat), (sumsTo v s i).length = s.long.toNat := fun i => by
      induction i with
      | zero => rw [sumsTo, List.length_replicate]
      | succ i ih => rw [sumsTo, List.length_set, ih]
    have ih := sumsTo_cls (v := v) hl n r hr i (by omega)
    rw [sumsTo, nth_set _ _ _ _ (by rw [elv]; exact hr), clsS]
    by_cases e : i % s.long.toNat = r
    · rw [if_pos e, if_pos ⟨e, by omega⟩, e, ih]
    · rw [if_neg e, if_neg (fun h => e h.1), ih, Int.add_zero]
/-- The least of the first sums, and its class, as the reference finds it. -/
def leastR (g : Nat → Int) : Nat → Int × Int
  | 0 => (0, -1)
  | r + 1 => if (leastR g r).2 < 0 ∨ g r < (leastR g r).1 then (g r, (r : Int)) else leastR g r
theorem leastR_spec (g : Nat → Int) : ∀ r, 0 < r → ∃ k : Nat, k < r ∧ leastR g r = (g k, (k : Int)) ∧ (∀ j, j < r → g k ≤ g j) ∧ ∀ j, j < k → g k < g j
  | 0, h => by omega
  | 1, _ => by
    refine ⟨0, by omega, ?_, fun j hj => ?_, fun j hj => by omega⟩
    · rw [leastR, leastR, if_pos (.inl (by simp))]
    · rw [show j = 0 by omega]; exact Int.le_refl _
  | r + 2, _ => by
    obtain ⟨k, h1, h2, h3, h4⟩ := leastR_spec g (r + 1) (by omega)
    rw [leastR, h2]
    by_cases hc : g (r + 1) < g k
    · rw [if_pos (.inr hc)]
      refine ⟨r + 1, by omega, rfl, fun j hj => ?_, fun j hj => ?_⟩
      · by_cases e : j = r + 1
        · subst e; exact Int.le_refl _
        · have := h3 j (by omega); omega
      · have := h3 j (by omega); omega
    · rw [if_neg (by simp only [not_or]; exact ⟨by omega, hc⟩)]
      refine ⟨k, by omega, rfl, fun j hj => ?_, h4⟩
      by_cases e : j = r + 1
      · subst e; omega
      · exact h3 j (by omega)
theorem minI_eq {l : List Int} {k : Nat} (hk : k < l.length) (h : ∀ j, j < l.length → nth l k ≤ nth l j) : minI l = nth l k := by
  have h1 : minI l ≤ nth l k := by
    have := (le_minI (l := l) (List.ne_nil_of_length_pos (by omega)) (y := minI l)).1 (Int.le_refl _) _ (nth_mem hk)
    exact this
  have h2 : nth l k ≤ minI l := (le_minI (List.ne_nil_of_length_pos (by omega))).2 fun n hn => by
    obtain ⟨j, hj, rfl⟩ := List.mem_iff_getElem.1 hn
    have e : nth l j = l[j] := by have := nth_eq hj; rw [List.getElem?_eq_getElem hj] at this; exact (Option.some.inj this).symm
    rw [← e]
    exact h j hj
  omega
theorem least_law {l : List Int} {g : Nat → Int} (hl : 0 < l.length) (hg : ∀ r, r < l.length → nth l r = g r) : leastR g l.length = (minI l, idxI (fun m => minI l == m) l) := by
  obtain ⟨k, h1, h2, h3, h4⟩ := leastR_spec g l.length hl
  have hm : minI l = g k := by
    rw [← hg k h1]
    exact minI_eq h1 fun j hj => by rw [hg k h1, hg j hj]; exact h3 j hj
  rw [h2, hm]
  refine Prod.ext rfl ?_
  show (k : Int) = _
  rw [idxI_some (p := fun m => g k == m) h1 (by rw [hg k h1]; simp) (fun j hj => by
    have := h4 j hj
    rw [hg j (by omega)]
    simp
    omega)]
end Go.Proofs.Ytafpicjnccffgaa.Ab.T01
