/- Boxes that were weighed out to two workers: plain. -/
import Derived.Test.YtmkholodkejomaaZRS
import Derived.Test.YtmkholodkejomaaZO5
namespace Go.Proofs.Ytmkholodkejomaa.Ab.T08
open Go Go.RowKit
set_option linter.unusedVariables false
set_option linter.unusedSimpArgs false
set_option maxRecDepth 100000
def B2 (s : Int × Int) : Prop := (0 ≤ s.1 ∧ s.1 < 256) ∧ (0 ≤ s.2 ∧ s.2 < 256)
def nG (bs : List (Int × Int)) : Nat := min 8 bs.length
def gW (bs : List (Int × Int)) (i : Nat) : Nat := ((nth bs i).1 % 2).toNat
def gV (bs : List (Int × Int)) (i : Nat) : Int := (nth bs i).2
def gS (sc : Int) (bs : List (Int × Int)) (i : Nat) : Sp := (max 0 (gV bs i - sc), gV bs i + sc)
def gBoxes (sc : Int) (bs : List (Int × Int)) (i : Nat) : List (List Sp) := (List.range i).map fun j => [gS sc bs j]
def gBook (bs : List (Int × Int)) (i : Nat) : List T07.En := (List.range i).map fun j => ⟨(gW bs j : Int), 1, 0, gV bs j⟩
def gMany (bs : List (Int × Int)) : Nat → Nat → Int
  | 0, _ => 0
  | i + 1, c => gMany bs i c + if gW bs i = c then 1 else 0
def gLow (sc : Int) (bs : List (Int × Int)) : Nat → Nat → Int
  | 0, _ => 0
  | i + 1, c => gLow sc bs i c + if gW bs i = c then (gS sc bs i).1 else 0
def gHigh (sc : Int) (bs : List (Int × Int)) : Nat → Nat → Int
  | 0, _ => 0
  | i + 1, c => gHigh sc bs i c + if gW bs i = c then (gS sc bs i).2 else 0
/-- The bills, of which the first ones are told what the workers have. -/
def gBill (sc : Int) (bs : List (Int × Int)) (i t c : Nat) : Bi := ⟨gMany bs i c, if c < t then [(gLow sc bs (nG bs) c, gHigh sc bs (nG bs) c)] else []⟩
def gBills (sc : Int) (bs : List (Int × Int)) (i t : Nat) : List Bi := [gBill sc bs i t 0, gBill sc bs i t 1]
def gL (sc : Int) (bs : List (Int × Int)) : Ld := ⟨gBoxes sc bs (nG bs), gBills sc bs (nG bs) 2⟩
def gT (bs : List (Int × Int)) : List Int := (List.range (nG bs)).map fun i => (gW bs i : Int)
theorem gBoxes_len (sc : Int) (bs : List (Int × Int)) (i : Nat) : (gBoxes sc bs i).length = i := by simp [gBoxes]
theorem gBoxes_succ (sc : Int) (bs : List (Int × Int)) (i : Nat) : gBoxes sc bs (i + 1) = gBoxes sc bs i ++ [[gS sc bs i]] := by simp [gBoxes, List.range_succ]
theorem gBook_len (bs : List (Int × Int)) (i : Nat) : (gBook bs i).length = i := by simp [gBook]
theorem gBook_succ (bs : List (Int × Int)) (i : Nat) : gBook bs (i + 1) = gBook bs i ++ [⟨(gW bs i : Int), 1, 0, gV bs i⟩] := by simp [gBook, List.range_succ]
theorem gT_len (bs : List (Int × Int)) : (gT bs).length = nG bs := by simp [gT]
theorem gT_nth {bs : List (Int × Int)} {i : Nat} (h : i < nG bs) : nth (gT bs) i = (gW bs i : Int) := nth_rng h
theorem gW_lt (bs : List (Int × Int)) (i : Nat) : gW bs i < 2 := by
  have h1 := Int.emod_nonneg (nth bs i).1 (show (2 : Int) ≠ 0 by omega)
  have h2 := Int.emod_lt_of_pos (nth bs i).1 (show (0 : Int) < 2 by omega)
  unfold gW
  omega
theorem gV_bd {bs : List (Int × Int)} (hb : ∀ s ∈ bs, B2 s) {i : Nat} (h : i < nG bs) : 0 ≤ gV bs i ∧ gV bs i < 256 := (hb _ (nth_mem (by unfold nG at h; omega))).2
theorem gMany_bd (bs : List (Int × Int)) (c : Nat) : ∀ i, 0 ≤ gMany bs i c ∧ gMany bs i c ≤ i
  | 0 => by simp [gMany]
  | i + 1 => by
    have := gMany_bd bs c i
    rw [gMany]
    split <;> omega
theorem gSum_bd {sc : Int} {bs : List (Int × Int)} (hb : ∀ s ∈ bs, B2 s) (hs : 0 ≤ sc ∧ sc < 20) (c : Nat) : ∀ i, i ≤ nG bs → 0 ≤ gLow sc bs i c ∧ gLow sc bs i c ≤ gHigh sc bs i c ∧ gHigh sc bs i c ≤ 300 * i
  | 0, _ => by simp [gLow, gHigh]
  | i + 1, h => by
    have := gSum_bd hb hs c i (by omega)
    have := gV_bd hb (i := i) (by omega)
    rw [gLow, gHigh]
    unfold gS
    split <;> (try simp only) <;> omega
theorem gL_ok {sc : Int} {bs : List (Int × Int)} (hb : ∀ s ∈ bs, B2 s) (hs : 0 ≤ sc ∧ sc < 20) : (gL sc bs).Ok 1 := by
  have h8 : nG bs ≤ 8 := by unfold nG; omega
  have hbill : ∀ b ∈ (gL sc bs).bills, ∃ c, c < 2 ∧ b = gBill sc bs (nG bs) 2 c := fun b hm => by
    simp only [gL, gBills, List.mem_cons, List.not_mem_nil, or_false] at hm
    rcases hm with rfl | rfl
    · exact ⟨0, by omega, rfl⟩
    · exact ⟨1, by omega, rfl⟩
  refine ⟨by show (gBoxes sc bs _).length ≤ 8; rw [gBoxes_len]; omega, by simp [gL, gBills], by omega, fun h hm => ?_, fun b hm => ?_, fun h hm s hs2 => ?_, fun b hm s hs2 => ?_, fun b hm => ?_⟩
  · obtain ⟨j, _, rfl⟩ := List.mem_map.1 hm; rfl
  · obtain ⟨c, hc, rfl⟩ := hbill b hm
    unfold gBill
    simp only
    rw [if_pos hc]
    rfl
  · obtain ⟨j, hj, rfl⟩ := List.mem_map.1 hm
    have := gV_bd hb (List.mem_range.1 hj)
    obtain rfl : s = gS sc bs j := by simpa using hs2
    unfold gS
    simp only
    omega
  · obtain ⟨c, hc, rfl⟩ := hbill b hm
    have := gSum_bd hb hs c (nG bs) (Nat.le_refl _)
    unfold gBill at hs2
    simp only at hs2
    rw [if_pos hc] at hs2
    obtain rfl : s = (gLow sc bs (nG bs) c, gHigh sc bs (nG bs) c) := by simpa using hs2
    simp only
    omega
  · obtain ⟨c, hc, rfl⟩ := hbill b hm
    have := gMany_bd bs c (nG bs)
    unfold gBill
    simp only
    omega
theorem g_cells {sc : Int} {bs : List (Int × Int)} (c : Nat) : ∀ i, i ≤ nG bs → cellN (gL sc bs) (gT bs) i (c * 7) = gMany bs i c ∧ cellN (gL sc bs) (gT bs) i (c * 7 + 1) = gLow sc bs i c ∧ cellN (gL sc bs) (gT bs) i (c * 7 + 2) = gHigh sc bs i c
  | 0, _ => ⟨rfl, rfl, rfl⟩
  | i + 1, h => by
    obtain ⟨h1, h2, h3⟩ := g_cells (sc := sc) (bs := bs) c i (by omega)
    have ht := gT_nth (bs := bs) (i := i) (by omega)
    have hbx : nth (gL sc bs).boxes i = [gS sc bs i] := nth_rng (n := nG bs) (f := fun j => [gS sc bs j]) (by omega)
    rw [cellN, cellN, cellN, h1, h2, h3, ht, hbx, gMany, gLow, gHigh, show c * 7 / 7 = c by omega, show (c * 7 + 1) / 7 = c by omega, show (c * 7 + 2) / 7 = c by omega, show c * 7 % 7 = 0 by omega, show (c * 7 + 1) % 7 = 1 by omega, show (c * 7 + 2) % 7 = 2 by omega]
    have a0 : addB [gS sc bs i] 0 = 1 := rfl
    have a1 : addB [gS sc bs i] 1 = (gS sc bs i).1 := rfl
    have a2 : addB [gS sc bs i] 2 = (gS sc bs i).2 := rfl
    rw [a0, a1, a2]
    by_cases e : gW bs i = c
    · have e' : ((gW bs i : Nat) : Int) = (c : Int) := by omega
      rw [if_pos e', if_pos e, if_pos e', if_pos e, if_pos e', if_pos e]
      exact ⟨rfl, rfl, rfl⟩
    · have e' : ¬ ((gW bs i : Nat) : Int) = (c : Int) := by omega
      rw [if_neg e', if_neg e, if_neg e', if_neg e, if_neg e', if_neg e]
      exact ⟨rfl, rfl, rfl⟩
theorem gL_bill (sc : Int) (bs : List (Int × Int)) {c : Nat} (hc : c < 2) : nth (gL sc bs).bills c = ⟨gMany bs (nG bs) c, [(gLow sc bs (nG bs) c, gHigh sc bs (nG bs) c)]⟩ := by
  rcases (by omega : c = 0 ∨ c = 1) with rfl | rfl <;> rfl
theorem g_way {sc : Int} {bs : List (Int × Int)} (hb : ∀ s ∈ bs, B2 s) (hs : 0 ≤ sc ∧ sc < 20) : gT bs ∈ allL (gL sc bs) := by
  refine all_mem (gL_ok hb hs) (by rw [gT_len]; exact (gBoxes_len sc bs _).symm) (fun i hi => ?_) ?_
  · rw [gT_len] at hi
    rw [gT_nth hi]
    have := gW_lt bs i
    have e : (gL sc bs).bills.length = 2 := rfl
    omega
  · unfold mayAll
    rw [List.all_eq_true]
    intro c hc
    have hc : c < 2 := List.mem_range.1 hc
    obtain ⟨a1, a2, a3⟩ := g_cells (sc := sc) (bs := bs) c (nG bs) (Nat.le_refl _)
    have sb := gSum_bd hb hs c (nG bs) (Nat.le_refl _)
    have e0 : cartW (gL sc bs) (gT bs) c 0 = gMany bs (nG bs) c := by unfold cartW cellW; rw [gT_len]; exact a1
    have e1 : cartW (gL sc bs) (gT bs) c 1 = gLow sc bs (nG bs) c := by unfold cartW cellW; rw [gT_len]; exact a2
    have e2 : cartW (gL sc bs) (gT bs) c 2 = gHigh sc bs (nG bs) c := by unfold cartW cellW; rw [gT_len]; exact a3
    rw [gL_bill sc bs hc]
    unfold mayB mayT
    simp only [List.length_cons, List.length_nil, Nat.zero_add, List.range_one, List.all_cons, List.all_nil, Bool.and_true, Bool.and_eq_true, decide_eq_true_eq]
    refine ⟨e0, ?_⟩
    unfold mayK
    simp only [Nat.zero_mul, Nat.add_zero, Nat.reduceAdd, e1, e2]
    have en : nth [(gLow sc bs (nG bs) c, gHigh sc bs (nG bs) c)] 0 = (gLow sc bs (nG bs) c, gHigh sc bs (nG bs) c) := rfl
    rw [en]
    simp
    omega
/-- All ways together have what the bill says. -/
theorem shT_is {l : Ld} {c s : Nat} {b : Sp} {W : List (List Int)} (h : ∀ k, k < W.length → b.1 ≤ (oneS l c s b (nth W k)).1 ∧ (oneS l c s b (nth W k)).2 ≤ b.2) {q : Nat} (hq : oneS l c s b (nth W q) = b) : ∀ k, k ≤ W.length → 0 < k → b.1 ≤ (shT l c s b W k).1 ∧ (shT l c s b W k).2 ≤ b.2 ∧ (q < k → (shT l c s b W k) = b)
  | 0, _, h0 => by omega
  | k + 1, hk, _ => by
    have hh := h k (by omega)
    by_cases k0 : 0 < k
    · obtain ⟨h1, h2, h3⟩ := shT_is h hq k (by omega) k0
      rw [shT, if_pos k0]
      refine ⟨by simp only; omega, by simp only; omega, fun hqk => ?_⟩
      by_cases e : q = k
      · subst e
        rw [hq]
        have e1 : min b.1 (shT l c s b W q).1 = b.1 := by omega
        have e2 : max b.2 (shT l c s b W q).2 = b.2 := by omega
        rw [e1, e2]
      · rw [h3 (by omega)]
        have e1 : min (oneS l c s b (nth W k)).1 b.1 = b.1 := by omega
        have e2 : max (oneS l c s b (nth W k)).2 b.2 = b.2 := by omega
        rw [e1, e2]
    · rw [shT, if_neg k0]
      refine ⟨hh.1, hh.2, fun hqk => ?_⟩
      obtain rfl : q = k := by omega
      exact hq
theorem g_share {sc : Int} {bs : List (Int × Int)} (hb : ∀ s ∈ bs, B2 s) (hs : 0 ≤ sc ∧ sc < 20) {c : Nat} (hc : c < 2) : shT (gL sc bs) c 0 (nth (nth (gL sc bs).bills c).h 0) (allL (gL sc bs)) (allL (gL sc bs)).length = (gLow sc bs (nG bs) c, gHigh sc bs (nG bs) c) := by
  have hw := g_way hb hs
  obtain ⟨q, hq, e⟩ := List.getElem_of_mem hw
  have eq' : nth (allL (gL sc bs)) q = gT bs := by
    have := nth_eq hq
    rw [List.getElem?_eq_getElem hq, e] at this
    exact (Option.some.inj this).symm
  obtain ⟨a1, a2, a3⟩ := g_cells (sc := sc) (bs := bs) c (nG bs) (Nat.le_refl _)
  have hbd : nth (nth (gL sc bs).bills c).h 0 = (gLow sc bs (nG bs) c, gHigh sc bs (nG bs) c) := by rw [gL_bill sc bs hc]; rfl
  rw [hbd]
  refine (shT_is (q := q) (fun k hk => ?_) ?_ _ (Nat.le_refl _) (by omega)).2.2 hq
  · unfold oneS
    simp only
    omega
  · rw [eq']
    unfold oneS
    rw [gT_len]
    simp only [Nat.zero_mul, Nat.add_zero, Nat.reduceAdd, a2, a3]
    have e1 : max (gLow sc bs (nG bs) c) (gLow sc bs (nG bs) c) = gLow sc bs (nG bs) c := by omega
    have e2 : min (gHigh sc bs (nG bs) c) (gHigh sc bs (nG bs) c) = gHigh sc bs (nG bs) c := by omega
    rw [e1, e2]
theorem g_can {sc : Int} {bs : List (Int × Int)} (hb : ∀ s ∈ bs, B2 s) (hs : 0 ≤ sc ∧ sc < 20) {j : Nat} (hj : j < nG bs) : orW (allL (gL sc bs)) j (allL (gL sc bs)).length < 8 ∧ (orW (allL (gL sc bs)) j (allL (gL sc bs)).length).testBit (gW bs j) = true := by
  have hw := g_way hb hs
  obtain ⟨q, hq, e⟩ := List.getElem_of_mem hw
  have eq' : nth (allL (gL sc bs)) q = gT bs := by
    have := nth_eq hq
    rw [List.getElem?_eq_getElem hq, e] at this
    exact (Option.some.inj this).symm
  have hm : ∀ i, i < (allL (gL sc bs)).length → 0 ≤ nth (nth (allL (gL sc bs)) i) j ∧ nth (nth (allL (gL sc bs)) i) j < 3 := fun i hi => by
    obtain ⟨h1, h2, _⟩ := mem_all (nth_mem hi)
    have e1 : (gL sc bs).boxes.length = nG bs := gBoxes_len sc bs _
    have e2 : (gL sc bs).bills.length = 2 := rfl
    have := h2 j (by omega)
    omega
  have h2 := orW_bit hm hq (Nat.le_refl _)
  rw [eq', gT_nth hj] at h2
  exact ⟨orW_lt hm, h2⟩
end Go.Proofs.Ytmkholodkejomaa.Ab.T08
