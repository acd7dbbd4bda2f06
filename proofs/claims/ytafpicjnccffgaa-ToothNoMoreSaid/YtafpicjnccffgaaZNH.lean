/- ToothSure, plain: no more sticks than Bound says; the greatest layout has no fault. -/
import Derived.Test.YtafpicjnccffgaaZNC
import Derived.Test.YtafpicjnccffgaaZP0
import Derived.Test.YtafpicjnccffgaaZF1
namespace Go.Proofs.Ytafpicjnccffgaa.Ab.T01
open Go Go.RowKit
set_option linter.unusedSimpArgs false
set_option linter.unusedVariables false
theorem refSound_one {v : Vw} {long : Nat} {wide : Int} {x c : Nat} {y : Int} (hx : x ≤ c) (hc : c < x + long) (h : refSound v long wide x y = true) : refSound v 1 wide c y = true := by
  unfold refSound at h ⊢
  rw [List.all_eq_true] at h ⊢
  intro d hd
  have hd : d < 1 := List.mem_range.1 hd
  have := h (c - x) (List.mem_range.2 (by omega))
  rw [show x + (c - x) = c by omega] at this
  rw [show c + d = c by omega]
  exact this
theorem oneS_ok {s : Sw} (hs : sawOk s = true) : sawOk (oneS s) = true := by
  unfold sawOk at *
  simp only [Bool.and_eq_true] at hs ⊢
  exact ⟨⟨by simp [oneS, betw], hs.1.2⟩, hs.2⟩
theorem blk_one {v : Vw} {s : Sw} {x c : Nat} (hv : v.Ok) (hs : sawOk s = true) (hx : x + s.long.toNat ≤ v.bottom.length) (h1 : x ≤ c) (h2 : c < x + s.long.toNat) : (blockI v s x).length ≤ (blockI v (oneS s) c).length := by
  have ho := oneS_ok hs
  have hc : c + (oneS s).long.toNat ≤ v.bottom.length := by show c + 1 ≤ _; omega
  rw [← block_law hv hs (x := x) hx, ← block_law hv ho (x := c) hc]
  have hs0 := hs
  unfold sawOk at hs0
  simp only [Bool.and_eq_true] at hs0
  have s2 := betw1 hs0.1.2
  have s3 := betw2 hs0.2
  have t1 : 1 ≤ stN s := by unfold stN; omega
  have t2 : stN (oneS s) = stN s := rfl
  rw [t2, grd_length t1 _ 0 (Nat.le_refl _), grd_length t1 _ 0 (Nat.le_refl _)]
  exact mny_less t1 (Nat.le_refl _) (fun y hy => refSound_one h1 h2 hy) _ 0 (Nat.le_refl _)
theorem clsS_mono {f : Nat → Nat} {n long r i : Nat} : ∀ d, clsS f n long r i ≤ clsS f n long r (i + d)
  | 0 => Int.le_refl _
  | d + 1 => by
    have := clsS_mono (f := f) (n := n) (long := long) (r := r) (i := i) d
    rw [← Nat.add_assoc, clsS]
    split <;> omega
theorem clsS_le {f : Nat → Nat} {n long r i j : Nat} (h : i ≤ j) : clsS f n long r i ≤ clsS f n long r j := by
  have := clsS_mono (f := f) (n := n) (long := long) (r := r) (i := i) (j - i)
  rw [show i + (j - i) = j by omega] at this
  exact this
/-- Each layout has, of each class of columns, a column for each of its blocks. -/
theorem bst_cls {f g : Nat → Nat} {n long step r : Nat} (hl : 1 ≤ long) (hst : long ≤ step) (hr : r < long) (hfg : ∀ x c, x + long ≤ n → x ≤ c → c < x + long → f x ≤ g c) : ∀ (k x : Nat), n + 1 - x ≤ k → (bst f n long step x : Int) ≤ clsS g n long r n - clsS g n long r x
  | 0, x, h => by
    rw [bst_end (by omega), clsS_end (x := x) (by omega)]
    omega
  | k + 1, x, h => by
    by_cases hc : x + long ≤ n
    · have i1 := bst_cls hl hst hr hfg k (x + 1) (by omega)
      have i2 := bst_cls hl hst hr hfg k (x + step) (by omega)
      have m1 := clsS_le (f := g) (n := n) (long := long) (r := r) (i := x) (j := x + 1) (by omega)
      have m2 := clsS_le (f := g) (n := n) (long := long) (r := r) (i := x + long) (j := x + step) (by omega)
      have dm := Nat.div_add_mod (x + (long - 1 - r)) long
      have ml := Nat.mod_lt (x + (long - 1 - r)) (show 0 < long by omega)
      obtain ⟨q, hq⟩ : ∃ q, q = long * ((x + (long - 1 - r)) / long) := ⟨_, rfl⟩
      rw [← hq] at dm
      have cm : (q + r) % long = r := by rw [hq, Nat.mul_add_mod, Nat.mod_eq_of_lt hr]
      have c1 : x ≤ q + r := by omega
      have c2 : q + r < x + long := by omega
      have hf := hfg x (q + r) hc c1 c2
      have m3 := clsS_le (f := g) (n := n) (long := long) (r := r) (i := x) (j := q + r) c1
      have m4 := clsS_le (f := g) (n := n) (long := long) (r := r) (i := q + r + 1) (j := x + long) (by omega)
      have e : clsS g n long r (q + r + 1) = clsS g n long r (q + r) + g (q + r) := by rw [clsS, if_pos ⟨cm, by omega⟩]
      rw [bst_step (by omega) hl hc]
      omega
    · rw [bst_end (by omega)]
      by_cases hx : x ≤ n
      · have := clsS_le (f := g) (n := n) (long := long) (r := r) hx
        omega
      · rw [clsS_end (x := x) (by omega)]
        omega
theorem bound_most {v : Vw} {s : Sw} (hv : v.Ok) (hs : sawOk s = true) : ((mostI v s).length : Int) ≤ minI (sumsTo v s v.bottom.length) := by
  have hs0 := hs
  unfold sawOk at hs0
  simp only [Bool.and_eq_true] at hs0
  have s1 := betw1 hs0.1.1
  have s3 := betw2 hs0.2
  have hll : 1 ≤ s.long.toNat := by omega
  have hst : 1 ≤ stepN s := by unfold stepN; omega
  have hst2 : s.long.toNat ≤ stepN s := by unfold stepN; omega
  have elv : ∀ (i : Nat), (sumsTo v s i).length = s.long.toNat := fun i => by
    induction i with
    | zero => rw [sumsTo, List.length_replicate]
    | succ i ih => rw [sumsTo, List.length_set, ih]
  have hmem : minI (sumsTo v s v.bottom.length) ∈ sumsTo v s v.bottom.length := by
    unfold minI
    rcases fold_mem min (fun a b => by omega) (sumsTo v s v.bottom.length) (nth (sumsTo v s v.bottom.length) 0) with h | h
    · rw [h]; exact nth_mem (by rw [elv]; omega)
    · exact h
  obtain ⟨r, hr, he⟩ := List.mem_iff_getElem.1 hmem
  rw [elv] at hr
  have he2 : minI (sumsTo v s v.bottom.length) = nth (sumsTo v s v.bottom.length) r := by
    rw [← he]
    unfold nth
    simp [List.getD_eq_getElem?_getD, elv, hr]
  rw [he2, sumsTo_cls hll v.bottom.length r hr _ (Nat.le_refl _)]
  unfold mostI
  rw [mostG_len hst hll _ 0 (Nat.le_refl _)]
  have := bst_cls (f := fun x => (blockI v s x).length) (g := fun x => (blockI v (oneS s) x).length) (n := v.bottom.length) (r := r) hll hst2 hr (fun x c h0 h1 h2 => blk_one hv hs h0 h1 h2) _ 0 (Nat.le_refl _)
  rw [show clsS (fun x => (blockI v (oneS s) x).length) v.bottom.length s.long.toNat r 0 = 0 from rfl] at this
  omega
/-- A blade that bends enough is as it is. -/
theorem sureT_ok {x : Tk} (hx : x.Ok) : (sureB (blT x)).Ok := sure_ok (new_blT hx)
theorem grd_few {g : Int → Bool} {st : Nat} (hs : 1 ≤ st) : ∀ (r y : Nat), 301 - y ≤ r → (grd g st y).length * st ≤ 300 - y + st
  | 0, y, h => by rw [grd_end (by omega)]; simp
  | r + 1, y, h => by
    by_cases hy : y ≤ 300
    · rw [grd_step hs hy]
      split
      · have i := grd_few (g := g) hs r (y + st) (by omega)
        rw [List.length_cons, Nat.succ_mul]
        by_cases h2 : y + st ≤ 300
        · omega
        · rw [grd_end (by omega)]; simp
      · have i := grd_few (g := g) hs r (y + 1) (by omega)
        omega
    · rw [grd_end (by omega)]; simp
theorem bst_few {f : Nat → Nat} {n long step c : Nat} (hs : 1 ≤ step) (hl : 1 ≤ long) (hf : ∀ x, x + long ≤ n → f x ≤ c) : ∀ r x : Nat, n + 1 - x ≤ r → bst f n long step x ≤ c * (n - x)
  | 0, x, h => by rw [bst_end (by omega)]; omega
  | r + 1, x, h => by
    by_cases hc : x + long ≤ n
    · rw [bst_step hs hl hc]
      have a := bst_few (f := f) (n := n) hs hl hf r (x + 1) (by omega)
      have b := bst_few (f := f) (n := n) hs hl hf r (x + step) (by omega)
      have m1 := bst_mono (f := f) (n := n) hs hl (x + 1) (step - 1)
      rw [show x + 1 + (step - 1) = x + step by omega] at m1
      have e : c * (n - x) = c * (n - (x + 1)) + c := by rw [show n - x = n - (x + 1) + 1 by omega, Nat.mul_succ]
      have := hf x hc
      omega
    · rw [bst_end (by omega)]; omega
theorem most_few {x : Tk} (hx : x.Ok) : (mostI (sureB (blT x)) (swT x)).length ≤ 400 := by
  have hs0 := saw_swT hx
  have hs := hs0
  unfold sawOk at hs0
  simp only [Bool.and_eq_true] at hs0
  have s1 := betw1 hs0.1.1
  have s2 := betw1 hs0.1.2
  have s3 := betw2 hs0.2
  have hv := sureT_ok hx
  have hst : 1 ≤ stepN (swT x) := by unfold stepN; omega
  have hll : 1 ≤ (swT x).long.toNat := by omega
  have t8 : 8 ≤ stN (swT x) := by
    have : 8 ≤ (swT x).wide := by
      have hb := hx.saw.b
      unfold By at hb
      simp only [swT]
      omega
    unfold stN
    omega
  unfold mostI
  rw [mostG_len hst hll _ 0 (Nat.le_refl _)]
  refine Nat.le_trans (bst_few (c := 38) hst hll (fun X hX => ?_) _ 0 (Nat.le_refl _)) ?_
  · rw [← block_law hv hs hX]
    have := grd_few (g := refSound (sureB (blT x)) (swT x).long.toNat (swT x).wide X) (st := stN (swT x)) (by omega) _ 0 (Nat.le_refl _)
    generalize (grd (refSound (sureB (blT x)) (swT x).long.toNat (swT x).wide X) (stN (swT x)) 0).length = n at *
    by_cases hn : n ≤ 38
    · exact hn
    · exfalso
      obtain ⟨m, rfl⟩ : ∃ m, n = 39 + m := ⟨n - 39, by omega⟩
      obtain ⟨t, ht⟩ : ∃ t, stN (swT x) = 8 + t := ⟨stN (swT x) - 8, by omega⟩
      rw [ht, Nat.add_mul, Nat.mul_add 39] at this
      omega
  · have e1 : (sureB (blT x)).bottom.length = numT x := by
      obtain ⟨n0, o1, o2, l1, l2, g1, g2, g3, g4⟩ := new_ok (new_blT hx)
      simp [sureB, sureV, l1, bot_len]
    have := numT_bd x
    rw [e1]
    omega
theorem most_poss {x : Tk} (hx : x.Ok) : ((mostI (sureB (blT x)) (swT x)).length : Int) ≤ (possR (blT x) (swT x)).1 := by
  obtain ⟨h1, h2, h3⟩ := most_chain (sureT_ok hx) (saw_swT hx)
  have hb := sure_real hx
  have hB : ∀ p ∈ mostI (sureB (blT x)) (swT x), OnBlade (realV x) (swT x) p := fun p hp => ⟨(h2 p hp).x0, by rw [hb.len]; exact (h2 p hp).x1, (h2 p hp).y0, (h2 p hp).y1⟩
  exact chain_poss hx h1 hB fun p hp => sound_bet hb (h2 p hp) (h3 p hp)
theorem most_real {x : Tk} (hx : x.Ok) : ∀ p ∈ mostI (sureB (blT x)) (swT x), OnBlade (realV x) (swT x) p ∧ soundI (realV x) (swT x) p = true := fun p hp => by
  obtain ⟨h1, h2, h3⟩ := most_chain (sureT_ok hx) (saw_swT hx)
  have hb := sure_real hx
  exact ⟨⟨(h2 p hp).x0, by rw [hb.len]; exact (h2 p hp).x1, (h2 p hp).y0, (h2 p hp).y1⟩, sound_bet hb (h2 p hp) (h3 p hp)⟩
theorem after_apart {s : Sw} (hs : sawOk s = true) {p q : Int × Int} (h : After s p q) : apartI s q p = true := by
  unfold sawOk at hs
  simp only [Bool.and_eq_true] at hs
  have s1 := betw1 hs.1.1
  have s2 := betw1 hs.1.2
  have s3 := betw2 hs.2
  unfold apartI
  rcases h with h | h
  · rw [if_pos h.1.symm, decide_eq_true_eq]; omega
  · rw [if_neg (by omega), decide_eq_true_eq]; omega
theorem pair_nth {s : Sw} {l : List (Int × Int)} (h : l.Pairwise (After s)) {i j : Nat} (hij : i < j) (hj : j < l.length) : After s (nth l i) (nth l j) := by
  have := List.pairwise_iff_getElem.1 h i j (by omega) hj hij
  unfold nth
  simpa [List.getD_eq_getElem?_getD, hj, show i < l.length by omega] using this
theorem fault_none {x : Tk} (hx : x.Ok) : faultR (blT x) (swT x) (mostI (sureB (blT x)) (swT x)) = (0, 7) := by
  obtain ⟨h1, h2, h3⟩ := most_chain (sureT_ok hx) (saw_swT hx)
  have hr := most_real hx
  have hf := most_few hx
  generalize mostI (sureB (blT x)) (swT x) = l at *
  unfold faultR
  have hp : placesOk (blT x) (swT x) l = true := List.all_eq_true.2 fun p hp => place_tk (hr p hp).1
  have e : faultO (sureB (blT x)) (swT x) l = none := by
    refine range_none fun i hi => ?_
    unfold badAt
    rw [h3 _ (nth_mem hi), Bool.not_true, Bool.false_or, List.any_eq_false]
    intro q hq
    obtain ⟨j, hj, rfl⟩ := List.mem_iff_getElem.1 hq
    have hj' : j < i := by simp at hj; omega
    have := after_apart (saw_swT hx) (pair_nth h1 hj' hi)
    have e : (l.take i)[j] = nth l j := by
      unfold nth
      simp [List.getD_eq_getElem?_getD, show j < l.length by omega]
    rw [e, this]
    decide
  rw [if_neg (by rw [open_tk hx]; simp), if_neg (by omega), hp, if_neg (by simp), e]
theorem bound_tk {x : Tk} (hx : x.Ok) : (boundR (blT x) (swT x)).2.2 = 0 ∧ ((mostI (sureB (blT x)) (swT x)).length : Int) ≤ (boundR (blT x) (swT x)).1 := by
  have := bound_most (sureT_ok hx) (saw_swT hx)
  have e1 : (sureB (blT x)).bottom.length = (blT x).bottom.length := by
    obtain ⟨n0, o1, o2, l1, l2, g1, g2, g3, g4⟩ := new_ok (new_blT hx)
    simp [sureB, sureV, l1]
  rw [e1] at this
  unfold boundR
  rw [if_neg (by rw [open_tk hx]; simp)]
  exact ⟨rfl, this⟩
theorem poss_len {x : Tk} (hx : x.Ok) : (possR (blT x) (swT x)).2.length = (blT x).cracks.length := by
  have hN := new_blT hx
  obtain ⟨N, hN1, _⟩ := cols_steps (cs := (blT x).cracks) fun c hc => (crack_cols hN c hc).2.1
  unfold possR
  rw [if_pos (open_tk hx)]
  simp only
  unfold possC
  rw [if_neg (by omega)]
  have := possJ_lt (blT x) (swT x) ((colsL (blT x).cracks).length - 1)
  rw [show (colsL (blT x).cracks).length - 1 + 1 = (colsL (blT x).cracks).length by omega] at this
  exact colsL_len _ (nth_mem this)
end Go.Proofs.Ytafpicjnccffgaa.Ab.T01
