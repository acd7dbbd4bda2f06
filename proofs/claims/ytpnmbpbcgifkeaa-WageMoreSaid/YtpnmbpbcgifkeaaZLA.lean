/- Hands that come one after another, as one hand: plain. -/
import Derived.Test.YtpnmbpbcgifkeaaZX3
namespace Go.Proofs.Ytpnmbpbcgifkeaa.Ab.T12
open Go Go.RowKit
set_option linter.unusedVariables false
set_option linter.unusedSimpArgs false
set_option maxRecDepth 100000
theorem sumTo_take : ∀ (l : List Int) (i : Nat), i ≤ l.length → sumTo l i = (l.take i).sum
  | l, 0, _ => by simp [sumTo]
  | l, i + 1, h => by
    have ih := sumTo_take l i (by omega)
    have e : l.take (i + 1) = l.take i ++ [nth l i] := by
      have := nth_eq (l := l) (i := i) (by omega)
      rw [List.take_add_one, this]
      rfl
    simp only [sumTo]
    rw [ih, e, List.sum_append]
    simp
theorem sumTo_len (l : List Int) : sumTo l l.length = l.sum := by rw [sumTo_take l l.length (Nat.le_refl _), List.take_length]
/-- The lists with some hands joined: after so many hands. -/
def joinT (P : List Int) (f t : Nat) : Nat → List Int
  | 0 => []
  | i + 1 => if i < f ∨ t ≤ i then joinT P f t i ++ [nth P i] else if i + 1 = t then joinT P f t i ++ [sumTo P t - sumTo P f] else joinT P f t i
/-- What the joined hands have, or get, after so many. -/
def partT (g : Nat → Int) (f t i : Nat) : Int := if i ≤ f then 0 else if t ≤ i then g t - g f else g i - g f
theorem joinT_len (P : List Int) (f t : Nat) : ∀ i, (joinT P f t i).length ≤ i
  | 0 => by simp [joinT]
  | i + 1 => by
    have ih := joinT_len P f t i
    unfold joinT
    split
    · rw [List.length_append]; simp; omega
    · split
      · rw [List.length_append]; simp; omega
      · omega
theorem take_succ_nth {P : List Int} {i : Nat} (h : i < P.length) : P.take (i + 1) = P.take i ++ [nth P i] := by
  have := nth_eq h
  rw [List.take_add_one, this]
  rfl
theorem joinT_low {P : List Int} {f t : Nat} : ∀ i, i ≤ f → i ≤ P.length → joinT P f t i = P.take i
  | 0, _, _ => by simp [joinT]
  | i + 1, h, hl => by
    unfold joinT
    rw [if_pos (.inl (by omega)), joinT_low i (by omega) (by omega), take_succ_nth (by omega)]
theorem joinT_mid {P : List Int} {f t : Nat} (hf : f ≤ P.length) : ∀ i, f ≤ i → i < t → joinT P f t i = P.take f
  | 0, h, _ => by
    have : f = 0 := by omega
    subst this
    simp [joinT]
  | i + 1, h, ht => by
    by_cases c : f = i + 1
    · rw [← c]; exact joinT_low f (Nat.le_refl _) hf
    · unfold joinT
      rw [if_neg (by omega), if_neg (by omega), joinT_mid hf i (by omega) (by omega)]
theorem joinT_high {P : List Int} {f t : Nat} (hf : f < t) (ht : t ≤ P.length) : ∀ i, t ≤ i → i ≤ P.length → joinT P f t i = P.take f ++ ((sumTo P t - sumTo P f) :: (P.take i).drop t)
  | 0, h, _ => by omega
  | i + 1, h, hl => by
    by_cases c : i + 1 = t
    · unfold joinT
      rw [if_neg (by omega), if_pos c, joinT_mid (by omega) i (by omega) (by omega), c]
      have : (P.take t).drop t = [] := by simp
      rw [this]
    · unfold joinT
      rw [if_pos (.inr (by omega)), joinT_high hf ht i (by omega) (by omega), take_succ_nth (by omega), List.drop_append_of_le_length (by rw [List.length_take]; omega)]
      simp
theorem joined {P : List Int} {f t : Nat} (hf : f < t) (ht : t ≤ P.length) : joinT P f t P.length = P.take f ++ ((sumTo P t - sumTo P f) :: P.drop t) := by
  rw [joinT_high hf ht P.length ht (Nat.le_refl _), List.take_length]
theorem joined_len {P : List Int} {f t : Nat} (hf : f < t) (ht : t ≤ P.length) : (joinT P f t P.length).length = f + 1 + (P.length - t) := by
  rw [joined hf ht]
  simp
  omega
theorem joined_sums {P : List Int} {f t : Nat} (hf : f < t) (ht : t ≤ P.length) : sumTo (joinT P f t P.length) f = sumTo P f ∧ sumTo (joinT P f t P.length) (f + 1) = sumTo P t ∧ sumTo (joinT P f t P.length) (joinT P f t P.length).length = sumTo P P.length := by
  have hl := joined_len hf ht
  have e1 : sumTo (joinT P f t P.length) f = sumTo P f := by
    rw [sumTo_take _ _ (by omega), sumTo_take _ _ (by omega), joined hf ht, List.take_append_of_le_length (by rw [List.length_take]; omega), List.take_take]
    congr 2
    omega
  have e2 : nth (joinT P f t P.length) f = sumTo P t - sumTo P f := by
    rw [joined hf ht]
    unfold nth
    have : (P.take f).length = f := by rw [List.length_take]; omega
    rw [List.getD_eq_getElem?_getD, List.getElem?_append_right (by omega), this]
    simp
  refine ⟨e1, ?_, ?_⟩
  · simp only [sumTo]
    rw [e1, e2]
    omega
  · rw [sumTo_len, sumTo_len, joined hf ht, List.sum_append, List.sum_cons]
    have h3 : (P.take t).sum + (P.drop t).sum = P.sum := by rw [← List.sum_append, List.take_append_drop]
    rw [sumTo_take P t ht, sumTo_take P f (by omega)]
    omega
theorem joined_ok {P : List Int} {f t : Nat} (hf : f < t) (ht : t ≤ P.length) (hP : betw 1 1000 P = true) (h1 : sumTo P t - sumTo P f ≤ 1000) : betw 1 1000 (joinT P f t P.length) = true := by
  have hm : sumTo P f + 1 ≤ sumTo P t := by
    have h2 := sumTo_mono hP (i := f + 1) (j := t) (by omega) ht
    have h3 := betw_mem hP (nth_mem (l := P) (i := f) (by omega))
    simp only [sumTo] at h2
    omega
  rw [joined hf ht]
  unfold betw
  rw [List.all_append, List.all_cons]
  have k1 : ∀ n ∈ P, (decide ((1 : Int) ≤ n) && decide (n ≤ 1000)) = true := fun n hn => by
    have := betw_mem hP hn
    simp
    omega
  simp only [Bool.and_eq_true, List.all_eq_true]
  refine ⟨fun n hn => ?_, ?_, fun n hn => ?_⟩
  · simpa using k1 n (List.mem_of_mem_take hn)
  · simp; omega
  · simpa using k1 n (List.mem_of_mem_drop hn)
/-- What the first hands get together. -/
def firstS (P : List Int) (m : Int) (i : Nat) : Int := m * sumTo P i / sumTo P P.length
theorem shareAt_eq (P : List Int) (m : Int) (i : Nat) : shareAt P m i = firstS P m (i + 1) - firstS P m i := rfl
theorem joined_share {P : List Int} {f t : Nat} (hf : f < t) (ht : t ≤ P.length) (m : Int) : shareAt (joinT P f t P.length) m f = firstS P m t - firstS P m f := by
  obtain ⟨h1, h2, h3⟩ := joined_sums hf ht
  unfold shareAt firstS
  rw [h1, h2, h3]
structure ShOk (P : List Int) (m : Int) : Prop where
  n0 : P.length ≠ 0
  n6 : P.length ≤ 6
  ok : ∀ n ∈ P, 1 ≤ n ∧ n ≤ 256
  m : 0 ≤ m ∧ m ≤ 10000
theorem ShOk.bt {P : List Int} {m : Int} (h : ShOk P m) : betw 1 1000 P = true := by
  unfold betw
  rw [List.all_eq_true]
  intro n hn
  have := h.ok n hn
  simp
  omega
theorem shareErr0 {P : List Int} {m : Int} (n0 : P.length ≠ 0) (n6 : P.length ≤ 6) (hb : betw 1 1000 P = true) (hm : 0 ≤ m ∧ m ≤ 10000) : shareErr P m = 0 ∧ shares P m = shareTo P m P.length := by
  have e : shareErr P m = 0 := by
    unfold shareErr
    rw [if_neg (by omega), if_neg n0, if_neg (by rw [hb]; decide), if_neg (by simp [betw]; omega)]
  exact ⟨e, by unfold shares; rw [if_pos e]⟩
theorem nth_share {P : List Int} {m : Int} {i n : Nat} (h : i < n) : nth (shareTo P m n) i = shareAt P m i := by
  unfold nth shareTo
  simp [List.getD_eq_getElem?_getD, h]
theorem sum_all {P : List Int} {m : Int} (h : ShOk P m) : (P.length : Int) ≤ sumTo P P.length ∧ sumTo P P.length ≤ 256 * P.length := by
  have h1 := (sumTo_bound h.bt (Nat.le_refl _)).1
  refine ⟨h1, ?_⟩
  have : ∀ i, i ≤ P.length → sumTo P i ≤ 256 * i := by
    intro i
    induction i with
    | zero => intro _; simp [sumTo]
    | succ i ih =>
      intro hi
      have h2 := ih (by omega)
      have h3 := h.ok _ (nth_mem (l := P) (i := i) (by omega))
      simp only [sumTo]
      omega
  exact this _ (Nat.le_refl _)
/-- The exact share, less than a farthing more or less. -/
theorem share_near {P : List Int} {m : Int} (h : ShOk P m) {i : Nat} (hi : i < P.length) : 0 ≤ shareAt P m i ∧ shareAt P m i ≤ m ∧ m * nth P i < (shareAt P m i + 1) * sumTo P P.length ∧ (shareAt P m i - 1) * sumTo P P.length < m * nth P i := by
  obtain ⟨a1, a2⟩ := sum_all h
  have hA : 0 < sumTo P P.length := by have := h.n0; omega
  have hm := h.m
  have hs : sumTo P (i + 1) = sumTo P i + nth P i := rfl
  have s0 := (sumTo_bound h.bt (i := i) (by omega)).1
  have sm := sumTo_mono h.bt (i := i + 1) (j := P.length) (by omega) (Nat.le_refl _)
  have hn := h.ok _ (nth_mem hi)
  rw [shareAt_eq]
  unfold firstS
  generalize hx : m * sumTo P (i + 1) = x
  generalize hy : m * sumTo P i = y
  generalize sumTo P P.length = A at *
  have hxy : x - y = m * nth P i := by rw [← hx, ← hy, hs, Int.mul_add]; omega
  have y0 : 0 ≤ y := by rw [← hy]; exact Int.mul_nonneg hm.1 (by omega)
  have mn : 0 ≤ m * nth P i := Int.mul_nonneg hm.1 (by omega)
  have xA : x ≤ m * A := by rw [← hx]; exact Int.mul_le_mul_of_nonneg_left sm hm.1
  have d1 := Int.mul_ediv_add_emod x A
  have d2 := Int.mul_ediv_add_emod y A
  have r1 := Int.emod_nonneg x (show A ≠ 0 by omega)
  have r1' := Int.emod_lt_of_pos x hA
  have r2 := Int.emod_nonneg y (show A ≠ 0 by omega)
  have r2' := Int.emod_lt_of_pos y hA
  have q1 : y / A ≤ x / A := Int.ediv_le_ediv hA (by omega)
  have q2 : x / A ≤ m := Int.ediv_le_of_le_mul hA xA
  have q3 : 0 ≤ y / A := Int.ediv_nonneg y0 (by omega)
  refine ⟨by omega, by omega, ?_, ?_⟩
  · rw [← hxy, Int.add_mul, Int.sub_mul, Int.one_mul, Int.mul_comm (x / A), Int.mul_comm (y / A)]
    omega
  · rw [← hxy, Int.sub_mul, Int.sub_mul, Int.one_mul, Int.mul_comm (x / A), Int.mul_comm (y / A)]
    omega
theorem firstS_mono {P : List Int} {m m2 : Int} (h : ShOk P m) (hm : m ≤ m2) {i : Nat} (hi : i ≤ P.length) : firstS P m i ≤ firstS P m2 i := by
  obtain ⟨a1, a2⟩ := sum_all h
  have s0 := (sumTo_bound h.bt hi).1
  exact Int.ediv_le_ediv (by have := h.n0; omega) (Int.mul_le_mul_of_nonneg_right hm (by omega))
theorem firstS_bd {P : List Int} {m : Int} (h : ShOk P m) {i : Nat} (hi : i ≤ P.length) : 0 ≤ firstS P m i ∧ firstS P m i ≤ m := by
  obtain ⟨a1, a2⟩ := sum_all h
  have hA : 0 < sumTo P P.length := by have := h.n0; omega
  have s0 := (sumTo_bound h.bt hi).1
  have sm := sumTo_mono h.bt hi (Nat.le_refl _)
  exact ⟨Int.ediv_nonneg (Int.mul_nonneg h.m.1 (by omega)) (by omega), Int.ediv_le_of_le_mul hA (Int.mul_le_mul_of_nonneg_left sm h.m.1)⟩
theorem firstS_end {P : List Int} {m : Int} (h : ShOk P m) : firstS P m P.length = m := by
  obtain ⟨a1, a2⟩ := sum_all h
  unfold firstS
  exact Int.mul_ediv_cancel m (by have := h.n0; omega)
end Go.Proofs.Ytpnmbpbcgifkeaa.Ab.T12
