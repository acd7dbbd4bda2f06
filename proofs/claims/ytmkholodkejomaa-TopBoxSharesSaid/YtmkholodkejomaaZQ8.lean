/- Money that is shared by boxes: plain. -/
import Derived.Test.YtmkholodkejomaaZQ7
import Derived.Test.YtmkholodkejomaaZX6
namespace Go.Proofs.Ytmkholodkejomaa.Ab.T08
open Go Go.RowKit
set_option linter.unusedVariables false
set_option linter.unusedSimpArgs false
set_option maxRecDepth 100000
def B2 (s : Int × Int) : Prop := (0 ≤ s.1 ∧ s.1 < 256) ∧ (0 ≤ s.2 ∧ s.2 < 256)
def nB (bs : List (Int × Int)) : Nat := min 6 bs.length
def cB (bs : List (Int × Int)) (i : Nat) : Nat := if i < 3 then i else ((nth bs i).1 % 3).toNat
def vB (bs : List (Int × Int)) (i : Nat) : Int := (nth bs i).2
def boxesT (bs : List (Int × Int)) (i : Nat) : List (List Sp) := (List.range i).map fun j => [(vB bs j, vB bs j)]
def manyT (bs : List (Int × Int)) : Nat → Nat → Int
  | 0, _ => 0
  | i + 1, c => manyT bs i c + if cB bs i = c then 1 else 0
def sumsT (bs : List (Int × Int)) : Nat → Nat → Int
  | 0, _ => 0
  | i + 1, c => sumsT bs i c + if cB bs i = c then vB bs i else 0
def crB (bs : List (Int × Int)) : Nat := min 3 (nB bs)
def billsT (bs : List (Int × Int)) (c : Nat) : List Bi := (List.range c).map fun k => ⟨manyT bs (nB bs) k, [(sumsT bs (nB bs) k, sumsT bs (nB bs) k)]⟩
def lB (bs : List (Int × Int)) : Ld := ⟨boxesT bs (nB bs), billsT bs (crB bs)⟩
def tW (bs : List (Int × Int)) : List Int := (List.range (nB bs)).map fun i => (cB bs i : Int)
theorem boxesT_len (bs : List (Int × Int)) (i : Nat) : (boxesT bs i).length = i := by simp [boxesT]
theorem boxesT_succ (bs : List (Int × Int)) (i : Nat) : boxesT bs (i + 1) = boxesT bs i ++ [[(vB bs i, vB bs i)]] := by simp [boxesT, List.range_succ]
theorem billsT_len (bs : List (Int × Int)) (i : Nat) : (billsT bs i).length = i := by simp [billsT]
theorem billsT_succ (bs : List (Int × Int)) (i : Nat) : billsT bs (i + 1) = billsT bs i ++ [⟨manyT bs (nB bs) i, [(sumsT bs (nB bs) i, sumsT bs (nB bs) i)]⟩] := by simp [billsT, List.range_succ]
theorem tW_len (bs : List (Int × Int)) : (tW bs).length = nB bs := by simp [tW]
theorem tW_nth {bs : List (Int × Int)} {i : Nat} (h : i < nB bs) : nth (tW bs) i = (cB bs i : Int) := nth_rng h
theorem cB_lt {bs : List (Int × Int)} {i : Nat} (h : i < nB bs) : cB bs i < crB bs := by
  unfold cB crB
  unfold nB at h ⊢
  split
  · omega
  · have h1 := Int.emod_nonneg (nth bs i).1 (show (3 : Int) ≠ 0 by omega)
    have h2 := Int.emod_lt_of_pos (nth bs i).1 (show (0 : Int) < 3 by omega)
    omega
theorem vB_bd {bs : List (Int × Int)} (hb : ∀ s ∈ bs, B2 s) {i : Nat} (h : i < nB bs) : 0 ≤ vB bs i ∧ vB bs i < 256 := (hb _ (nth_mem (by unfold nB at h; omega))).2
theorem manyT_bd (bs : List (Int × Int)) (c : Nat) : ∀ i, 0 ≤ manyT bs i c ∧ manyT bs i c ≤ i
  | 0 => by simp [manyT]
  | i + 1 => by
    have := manyT_bd bs c i
    rw [manyT]
    split <;> omega
theorem sumsT_bd {bs : List (Int × Int)} (hb : ∀ s ∈ bs, B2 s) (c : Nat) : ∀ i, i ≤ nB bs → 0 ≤ sumsT bs i c ∧ sumsT bs i c ≤ 255 * i
  | 0, _ => by simp [sumsT]
  | i + 1, h => by
    have := sumsT_bd hb c i (by omega)
    have := vB_bd (bs := bs) hb (i := i) (by omega)
    rw [sumsT]
    split <;> omega
theorem lB_ok {bs : List (Int × Int)} (hb : ∀ s ∈ bs, B2 s) (h1 : 1 ≤ nB bs) : (lB bs).Ok 1 := by
  have h6 : nB bs ≤ 6 := by unfold nB; omega
  have hc : crB bs ≤ 3 ∧ 1 ≤ crB bs := by unfold crB; omega
  refine ⟨by show (boxesT bs _).length ≤ 8; rw [boxesT_len]; omega, by show 1 ≤ (billsT bs _).length ∧ (billsT bs _).length ≤ 3; rw [billsT_len]; omega, by omega, fun h hm => ?_, fun b hm => ?_, fun h hm s hs => ?_, fun b hm s hs => ?_, fun b hm => ?_⟩
  · obtain ⟨j, _, rfl⟩ := List.mem_map.1 hm; rfl
  · obtain ⟨j, _, rfl⟩ := List.mem_map.1 hm; rfl
  · obtain ⟨j, hj, rfl⟩ := List.mem_map.1 hm
    have := vB_bd hb (List.mem_range.1 hj)
    obtain rfl : s = (vB bs j, vB bs j) := by simpa using hs
    simp only
    omega
  · obtain ⟨j, hj, rfl⟩ := List.mem_map.1 hm
    have := sumsT_bd hb j (nB bs) (Nat.le_refl _)
    obtain rfl : s = (sumsT bs (nB bs) j, sumsT bs (nB bs) j) := by simpa using hs
    simp only
    omega
  · obtain ⟨j, hj, rfl⟩ := List.mem_map.1 hm
    have := manyT_bd bs j (nB bs)
    simp only
    omega
theorem cell_true {bs : List (Int × Int)} (c : Nat) : ∀ i, i ≤ nB bs → cellN (lB bs) (tW bs) i (c * 7) = manyT bs i c ∧ cellN (lB bs) (tW bs) i (c * 7 + 1) = sumsT bs i c ∧ cellN (lB bs) (tW bs) i (c * 7 + 2) = sumsT bs i c
  | 0, _ => ⟨rfl, rfl, rfl⟩
  | i + 1, h => by
    obtain ⟨h1, h2, h3⟩ := cell_true (bs := bs) c i (by omega)
    have ht := tW_nth (bs := bs) (i := i) (by omega)
    have hbx : nth (lB bs).boxes i = [(vB bs i, vB bs i)] := nth_rng (n := nB bs) (f := fun j => [(vB bs j, vB bs j)]) (by omega)
    rw [cellN, cellN, cellN, h1, h2, h3, ht, hbx, manyT, sumsT, show c * 7 / 7 = c by omega, show (c * 7 + 1) / 7 = c by omega, show (c * 7 + 2) / 7 = c by omega, show c * 7 % 7 = 0 by omega, show (c * 7 + 1) % 7 = 1 by omega, show (c * 7 + 2) % 7 = 2 by omega]
    have a0 : addB [(vB bs i, vB bs i)] 0 = 1 := rfl
    have a1 : addB [(vB bs i, vB bs i)] 1 = vB bs i := rfl
    have a2 : addB [(vB bs i, vB bs i)] 2 = vB bs i := rfl
    rw [a0, a1, a2]
    by_cases e : cB bs i = c
    · rw [if_pos (by omega), if_pos e, if_pos (by omega), if_pos e]
      exact ⟨rfl, rfl, rfl⟩
    · rw [if_neg (by omega), if_neg e, if_neg (by omega), if_neg e]
      exact ⟨rfl, rfl, rfl⟩
theorem true_way {bs : List (Int × Int)} (hb : ∀ s ∈ bs, B2 s) (h1 : 1 ≤ nB bs) : tW bs ∈ allL (lB bs) := by
  refine all_mem (lB_ok hb h1) (by rw [tW_len]; exact (boxesT_len bs _).symm) (fun i hi => ?_) ?_
  · rw [tW_len] at hi
    rw [tW_nth hi]
    have := cB_lt hi
    have e : (lB bs).bills.length = crB bs := billsT_len bs _
    omega
  · unfold mayAll
    rw [List.all_eq_true]
    intro c hc
    have hc : c < crB bs := by
      have e : (lB bs).bills.length = crB bs := billsT_len bs _
      rw [← e]; exact List.mem_range.1 hc
    obtain ⟨a1, a2, a3⟩ := cell_true (bs := bs) c (nB bs) (Nat.le_refl _)
    have eb : nth (lB bs).bills c = ⟨manyT bs (nB bs) c, [(sumsT bs (nB bs) c, sumsT bs (nB bs) c)]⟩ := nth_rng hc
    have e0 : cartW (lB bs) (tW bs) c 0 = manyT bs (nB bs) c := by unfold cartW cellW; rw [tW_len]; exact a1
    have e1 : cartW (lB bs) (tW bs) c 1 = sumsT bs (nB bs) c := by unfold cartW cellW; rw [tW_len]; exact a2
    have e2 : cartW (lB bs) (tW bs) c 2 = sumsT bs (nB bs) c := by unfold cartW cellW; rw [tW_len]; exact a3
    rw [eb]
    unfold mayB mayT
    simp only [List.length_cons, List.length_nil, Nat.zero_add, List.range_one, List.all_cons, List.all_nil, Bool.and_true, Bool.and_eq_true, decide_eq_true_eq]
    refine ⟨e0, ?_⟩
    unfold mayK
    simp only [Nat.zero_mul, Nat.add_zero, Nat.reduceAdd, e1, e2]
    have en : nth [(sumsT bs (nB bs) c, sumsT bs (nB bs) c)] 0 = (sumsT bs (nB bs) c, sumsT bs (nB bs) c) := rfl
    rw [en]
    simp
/-- Sums of counts. -/
theorem sum_one (x : Int) (hx : 0 ≤ x) : ∀ C : Nat, ((List.range C).map fun c : Nat => if x = (c : Int) then (1 : Int) else 0).sum = if x < C then 1 else 0
  | 0 => by simp; omega
  | C + 1 => by
    rw [List.range_succ, List.map_append, List.sum_append, sum_one x hx C]
    simp only [List.map_cons, List.map_nil, List.sum_cons, List.sum_nil]
    by_cases h1 : x < C
    · rw [if_pos h1, if_neg (by omega), if_pos (by omega)]; rfl
    · rw [if_neg h1]
      by_cases h2 : x = C
      · rw [if_pos h2, if_pos (by omega)]; rfl
      · rw [if_neg h2, if_neg (by omega)]; rfl
theorem sum_map_add (f g : Nat → Int) : ∀ l : List Nat, (l.map fun c => f c + g c).sum = (l.map f).sum + (l.map g).sum
  | [] => rfl
  | a :: l => by
    simp only [List.map_cons, List.sum_cons, sum_map_add f g l]
    omega
theorem zsum : ∀ l : List Nat, (l.map fun _ => (0 : Int)).sum = 0
  | [] => rfl
  | a :: l => by simp only [List.map_cons, List.sum_cons, zsum l]; rfl
theorem cntL_sum {w : List Int} {C : Nat} : ∀ i, (∀ j, j < i → 0 ≤ nth w j ∧ nth w j < C) → (cntL w C i).sum = i
  | 0, _ => by
    unfold cntL
    have : (List.range C).map (cntN w 0) = (List.range C).map fun _ => (0 : Int) := rfl
    rw [this, zsum]
    rfl
  | i + 1, h => by
    have ih := cntL_sum i (fun j hj => h j (by omega))
    have hi := h i (by omega)
    unfold cntL at ih ⊢
    have e : (List.range C).map (cntN w (i + 1)) = (List.range C).map fun c => cntN w i c + if nth w i = (c : Int) then 1 else 0 := rfl
    rw [e, sum_map_add, ih, sum_one _ hi.1, if_pos hi.2]
    omega
theorem sumTo_sum (l : List Int) : ∀ i, i ≤ l.length → T12.sumTo l i = (l.take i).sum
  | 0, _ => by simp [T12.sumTo]
  | i + 1, h => by
    rw [T12.sumTo, sumTo_sum l i (by omega), take_nth (by omega), List.sum_append]
    simp
theorem sumTo_all (l : List Int) : T12.sumTo l l.length = l.sum := by rw [sumTo_sum l _ (Nat.le_refl _), List.take_length]
theorem sumTo_ones (N : Nat) : ∀ i, i ≤ N → T12.sumTo (List.replicate N 1) i = i
  | 0, _ => rfl
  | i + 1, h => by
    have : nth (List.replicate N (1 : Int)) i = 1 := by
      show (List.replicate N (1 : Int)).getD i default = 1
      rw [List.getD_eq_getElem?_getD, List.getElem?_replicate, if_pos (by omega)]
      rfl
    rw [T12.sumTo, sumTo_ones N i (by omega), this]
    omega
theorem manyT_pos (bs : List (Int × Int)) {c : Nat} (hc : c < 3) : ∀ i, c < i → 1 ≤ manyT bs i c
  | i + 1, h => by
    rw [manyT]
    by_cases e : c = i
    · have := manyT_bd bs c i
      rw [if_pos (by unfold cB; rw [if_pos (by omega)]; omega)]
      omega
    · have := manyT_pos bs hc i (by omega)
      split <;> omega
theorem manyT_step {bs : List (Int × Int)} {i d : Nat} (h : cB bs i = d) : (fun k => if k = d then manyT bs i d + 1 else manyT bs i k) = manyT bs (i + 1) := by
  funext k
  rw [manyT]
  by_cases e : k = d
  · rw [if_pos e, if_pos (by omega), e]
  · rw [if_neg e, if_neg (by omega), Int.add_zero]
theorem sumsT_step {bs : List (Int × Int)} {i d : Nat} (h : cB bs i = d) : (fun k => if k = d then sumsT bs i d + vB bs i else sumsT bs i k) = sumsT bs (i + 1) := by
  funext k
  rw [sumsT]
  by_cases e : k = d
  · rw [if_pos e, if_pos (by omega), e]
  · rw [if_neg e, if_neg (by omega), Int.add_zero]
/-- What the first hands get. -/
def eX (m : Int) (n i : Nat) : Int := m * i / n
theorem eX_bd {m : Int} {n i : Nat} (hm : 0 ≤ m ∧ m ≤ 10000) (hn : 0 < n) (hi : i ≤ n) : 0 ≤ eX m n i ∧ eX m n i ≤ 10000 := by
  have h1 : 0 ≤ m * (i : Int) := Int.mul_nonneg hm.1 (by omega)
  have h2 : m * (i : Int) ≤ 10000 * (n : Int) := Int.le_trans (Int.mul_le_mul_of_nonneg_left (by omega) hm.1) (Int.mul_le_mul_of_nonneg_right hm.2 (by omega))
  exact ⟨Int.ediv_nonneg h1 (by omega), Int.ediv_le_of_le_mul (by omega) h2⟩
theorem shareErr_ok {l : List Int} {m : Int} (h1 : 1 ≤ l.length ∧ l.length ≤ 6) (h2 : ∀ x ∈ l, 1 ≤ x ∧ x ≤ 1000) (h3 : 0 ≤ m ∧ m ≤ 10000) : T12.shareErr l m = 0 := by
  unfold T12.shareErr
  have b1 : betw 1 1000 l = true := by
    unfold betw
    rw [List.all_eq_true]
    intro x hx
    have := h2 x hx
    simp
    omega
  have b2 : betw 0 10000 [m] = true := by simp [betw]; omega
  rw [if_neg (by omega), if_neg (by omega), b1, b2]
  rfl
/-- What each box gets by itself. -/
theorem each_is {m : Int} {n : Nat} (hn : 1 ≤ n ∧ n ≤ 6) (hm : 0 ≤ m ∧ m ≤ 10000) : T12.shareErr (List.replicate n 1) m = 0 ∧ (T12.shares (List.replicate n 1) m).length = n ∧ ∀ i, i < n → nth (T12.shares (List.replicate n 1) m) i = eX m n (i + 1) - eX m n i := by
  have e : T12.shareErr (List.replicate n 1) m = 0 := shareErr_ok (by simp; omega) (fun x hx => by rw [List.eq_of_mem_replicate hx]; omega) hm
  have es : T12.shares (List.replicate n 1) m = T12.shareTo (List.replicate n 1) m n := by unfold T12.shares; rw [if_pos e, List.length_replicate]
  refine ⟨e, by rw [es, T12.shareTo_length], fun i hi => ?_⟩
  rw [es]
  unfold T12.shareTo
  rw [nth_rng hi]
  unfold T12.shareAt eX
  rw [List.length_replicate, sumTo_ones n n (Nat.le_refl _), sumTo_ones n (i + 1) (by omega), sumTo_ones n i (by omega)]
/-- What the carriers get. -/
theorem all_is {P : List Int} {m : Int} {n : Nat} (hl : 1 ≤ P.length ∧ P.length ≤ 3) (hp : ∀ x ∈ P, 1 ≤ x ∧ x ≤ 6) (hs : P.sum = n) (hm : 0 ≤ m ∧ m ≤ 10000) : ∃ S : Nat → Nat, S 0 = 0 ∧ S P.length = n ∧ (∀ c, c < P.length → ((S (c + 1) : Nat) : Int) = (S c : Int) + nth P c) ∧ (∀ c, c ≤ P.length → S c ≤ n) ∧ T12.shareErr P m = 0 ∧ (T12.shares P m).length = P.length ∧ ∀ c, c < P.length → nth (T12.shares P m) c = eX m n (S (c + 1)) - eX m n (S c) := by
  have e : T12.shareErr P m = 0 := shareErr_ok (by omega) (fun x hx => by have := hp x hx; omega) hm
  have es : T12.shares P m = T12.shareTo P m P.length := by unfold T12.shares; rw [if_pos e]
  have bw : betw 1 1000 P = true := by
    unfold betw
    rw [List.all_eq_true]
    intro x hx
    have := hp x hx
    simp
    omega
  have hb := fun i (h : i ≤ P.length) => T12.sumTo_bound bw (i := i) h
  have ht : T12.sumTo P P.length = n := by rw [sumTo_all, hs]
  refine ⟨fun c => (T12.sumTo P c).toNat, rfl, by simp only; omega, fun c hc => ?_, fun c hc => ?_, e, by rw [es, T12.shareTo_length], fun c hc => ?_⟩
  · have h1 := hb c (by omega)
    have h2 := hb (c + 1) (by omega)
    have : T12.sumTo P (c + 1) = T12.sumTo P c + nth P c := rfl
    simp only
    omega
  · have h1 := hb c hc
    have := T12.sumTo_mono bw (i := c) (j := P.length) hc (Nat.le_refl _)
    simp only
    omega
  · have h1 := hb c (by omega)
    have h2 := hb (c + 1) (by omega)
    rw [es]
    unfold T12.shareTo
    rw [nth_rng hc]
    unfold T12.shareAt eX
    rw [ht, show (((T12.sumTo P (c + 1)).toNat : Nat) : Int) = T12.sumTo P (c + 1) by omega, show (((T12.sumTo P c).toNat : Nat) : Int) = T12.sumTo P c by omega]
end Go.Proofs.Ytmkholodkejomaa.Ab.T08
