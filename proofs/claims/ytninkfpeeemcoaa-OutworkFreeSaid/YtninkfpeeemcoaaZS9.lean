/- The plain law OutworkQuits: what follows when a worker brings back what settles. -/
import Derived.Test.YtninkfpeeemcoaaZS6
namespace Go.Proofs.Ytninkfpeeemcoaa.Ab.T07
open Go Go.RowKit
set_option linter.unusedVariables false
set_option linter.unusedSimpArgs false
set_option maxRecDepth 100000
/-- The counts of a shop's book are small. -/
theorem stN_c {x : Sh} (hx : x.Ok) (l : List Int) : ∀ n, n ≤ numX x → ∀ e ∈ (stN x l n).1, e.c ≤ 9000
  | 0, _, e, he => by simp [stN] at he
  | n + 1, hn, e, he => by
    have i := stN_c hx l n (by omega)
    have hn2 : n < x.ls.length ∧ n < 10 := by unfold numX at hn; omega
    have hv := hx.ls _ (nth_mem hn2.1)
    have tr := stN_tr hx l n (by omega)
    have ha := hx.hs.a
    unfold By at ha
    have hsc : 0 ≤ (houseX x).sc ∧ (houseX x).sc ≤ 7 := by simp only [houseX]; omega
    rw [stN] at he
    generalize nth x.ls n = v at *
    generalize stN x l n = st at *
    obtain ⟨va, vb, vc, vd⟩ := hv
    unfold By at vc
    have hW : wOf v < 3 := by unfold By at va; unfold wOf; omega
    have hS : sOf v < 2 := by unfold By at va; unfold sOf; omega
    unfold stepS at he
    split at he
    · rcases List.mem_append.1 he with h1 | h1
      · exact i e h1
      · rw [List.mem_singleton.1 h1]
        have := (showI_bd hsc.1 (40 + 3 * v.c) l n).2.2 (by omega)
        simp only
        omega
    · split at he
      · rcases List.mem_append.1 he with h1 | h1
        · exact i e h1
        · rw [List.mem_singleton.1 h1]
          have hl := tr.left _ _ hW hS
          have ho := tr.out _ _ hW hS
          have a1 := tr.nn (6 + 2 * wOf v + sOf v)
          have a2 := tr.nn (12 + 2 * wOf v + sOf v)
          have a3 := tr.nn (18 + 2 * wOf v + sOf v)
          have hL : leftI st.2 (wOf v) (sOf v) ≤ 8050 := by unfold leftI; omega
          have m0 := Int.mul_nonneg vc.1 hl
          have m1 := Int.mul_le_mul_of_nonneg_right (show v.c ≤ 255 by omega) hl
          have := (showI_bd hsc.1 (v.c * leftI st.2 (wOf v) (sOf v) / 255) l n).2.2 (by omega)
          simp only
          omega
      · rcases List.mem_append.1 he with h1 | h1
        · exact i e h1
        · rw [List.mem_singleton.1 h1]
          have o := fansS_ok (h := houseX x) (l := l) (i := n) (W := wOf v) (fun s hs => by have := (houseX_ok hx).tks _ (nth_mem (l := (houseX x).tk) (i := s) hs); omega) (v.c % 20).toNat 0 st.2 (fun s hs => tr.left _ _ hW hs)
          have := o.n
          simp only
          omega
theorem accN_o2 {h : Hs} {b : List En} {w s : Int} (hsc : 0 ≤ h.sc ∧ h.sc ≤ 100) (hb : ∀ e ∈ b, 0 ≤ e.c ∧ e.c ≤ 9000) : ∀ n, n ≤ b.length → (accN h b w s nof n).o2 ≤ 9100 * (n : Int)
  | 0, _ => by simp [accN]
  | n + 1, hn => by
    have i := accN_o2 (h := h) (w := w) (s := s) hsc hb n (by omega)
    have c := hb _ (nth_mem (l := b) (i := n) (by omega))
    rw [accN]
    unfold accS cnt wgt
    simp only [nof, Bool.false_eq_true, if_false]
    split
    · omega
    · split
      · simp only; omega
      · split
        · omega
        · split <;> (simp only; omega)
section
variable {h : Hs} {b : List En} {r : Rl}
theorem Tru.small (t : Tru h b r) (hc : ∀ e ∈ b, e.c ≤ 9000) (w : Nat) {s : Nat} (hs : s < 2) : T07.high (acc h b w s nof) ≤ 91000 := by
  have a := accN_o2 (h := h) (b := b) (w := w) (s := s) t.t.ok.hs.sc (fun e he => ⟨(t.t.ok.en e he).c.1, hc e he⟩) b.length (Nat.le_refl _)
  have bd := acc_bd t.t.ok (w := w) (s := s) (by have := t.two; omega) nof
  have := t.t.ten
  obtain ⟨b1, b2, b3, b4⟩ := bd
  unfold T07.high
  unfold acc at *
  omega
theorem Tru.settleErr (t : Tru h b r) (hc : ∀ e ∈ b, e.c ≤ 9000) {w : Nat} (hw : w < 6) : settleErr h b w = 0 := by
  unfold T07.settleErr
  rw [t.hasErr hw, if_neg (by simp), if_neg]
  rw [Bool.not_eq_true, List.any_eq_false]
  intro q hq
  unfold hasL at hq
  obtain ⟨s, hs, rfl⟩ := List.mem_map.1 hq
  have hs := List.mem_range.1 hs
  have := t.small hc w (s := s) (by have := t.two; omega)
  have hsc := t.t.ok.hs.sc
  simp only [decide_eq_true_eq]
  unfold settleI
  have e : (T07.has (acc h b w s nof)).2 = T07.high (acc h b w s nof) := rfl
  rw [e]
  split <;> omega
theorem Tru.settleR (t : Tru h b r) (hc : ∀ e ∈ b, e.c ≤ 9000) {w : Nat} (hw : w < 6) : settleR h b w = (hasL h b w 2).map (settleI h) := by
  unfold T07.settleR
  rw [t.settleErr hc hw, if_pos rfl, t.two]
theorem settle_nth (t : Tru h b r) (w : Nat) {s : Nat} (hs : s < 2) : nth ((hasL h b w 2).map (settleI h)) s = settleI h (T07.has (acc h b w s nof)) := by
  rw [← hasL_nth (h := h) (b := b) (w := (w : Int)) (n := 2) hs]
  unfold nth
  simp [List.getD_eq_getElem?_getD, hasL_len, hs]
/-- The book in which a worker brings back something at the end. -/
def backB (b : List En) (w s c : Int) : List En := b ++ [⟨w, 2, s, c⟩]
theorem acc_push (h : Hs) (b : List En) (x : En) (w s : Int) : acc h (b ++ [x]) w s nof = accS h w s (acc h b w s nof) x false := acc_snoc h b x w s
theorem back_high (h : Hs) (b : List En) (w s c : Int) (w' s' : Int) : T07.high (acc h (backB b w s c) w' s' nof) = T07.high (acc h b w' s' nof) - (if w = w' ∧ s = s' then max 0 (c - h.sc) else 0) := by
  unfold backB
  rw [acc_push, accS_back]
  unfold T07.high
  split
  · simp only; omega
  · omega
theorem tru_back (t : Tru h b r) {w s : Nat} {c : Int} (hw : w < 3) (hs : s < 2) (hc : 0 ≤ c ∧ c ≤ 100000) (hq : c - h.sc ≤ T07.high (acc h b w s nof)) : hasErr h (backB b w s c) w = 0 ∧ hasR h (backB b w s c) w = hasL h (backB b w s c) w 2 := by
  have two := t.two
  have ok : Ok h (backB b w s c) := by
    refine ⟨t.t.ok.hs, by unfold backB; have := t.t.ten; simp; omega, fun x hx => ?_⟩
    rcases List.mem_append.1 hx with h1 | h1
    · exact t.t.ok.en x h1
    · rw [List.mem_singleton.1 h1]
      refine ⟨by simp only; omega, .inl ⟨.inr rfl, by simp only; omega, by simp only; omega⟩, ?_⟩
      have e : mostE ⟨w, 2, s, c⟩ = 100000 := by unfold mostE; rw [if_neg (by simp)]
      rw [e]
      exact hc
  have tb : trueB h (backB b w s c) nof = true := trueB_iff.2 fun w' hw' => okW_iff.2 fun s' hs' => by
    rw [back_high]
    have := t.high0 w' (s := s') (by omega)
    split
    · rename_i e
      have e1 : w = w' := by omega
      have e2 : s = s' := by omega
      subst e1 e2
      omega
    · omega
  have e : hasErr h (backB b w s c) w = 0 := by
    have eo : openErr h (backB b w s c) = 0 := by
      unfold openErr
      rw [check_back ok, if_neg (by simp), tb, if_pos rfl]
    unfold T07.hasErr
    rw [eo, if_neg (by simp), if_pos (by simp [isWorker, betw]; omega)]
  refine ⟨e, ?_⟩
  unfold T07.hasR
  rw [e, if_pos rfl, two]
theorem has_le {a : Ac} (ha : a.Bd 12) (hp : 0 ≤ T07.high a) : (T07.has a).1 ≤ (T07.has a).2 := by
  obtain ⟨h1, h2, h3, h4⟩ := ha
  have m := Int.mul_nonneg h1.1 h4.1
  unfold T07.has loss
  simp only
  unfold T07.high at *
  omega
/-- What is so when what settles, or a grain less, is brought back. -/
theorem tru_quit (t : Tru h b r) (hb : ∀ e ∈ b, e.c ≤ 9000) {w s : Nat} {k : Nat} (hw : w < 3) (hs : s < 2) (hk : k < 2) {c : Int} (hc : c = settleI h (T07.has (acc h b w s nof)) - k) (h0 : 0 ≤ c) :
    hasErr h (backB b w s c) w = 0 ∧ hasR h (backB b w s c) w = hasL h (backB b w s c) w 2 ∧
    (k = 0 → (T07.has (acc h (backB b w s c) w s nof)).1 = 0 ∧ (T07.has (acc h (backB b w s c) w s nof)).2 ≤ h.sc) ∧
    (k = 1 → ¬ (T07.has (acc h (backB b w s c) w s nof)).2 ≤ h.sc) := by
  have two := t.two
  have hsc := t.t.ok.hs.sc
  have sm := t.small hb w hs
  have bd := acc_bd t.t.ok (w := w) (s := s) (by omega) nof
  have h00 := t.high0 w hs
  have e2 : (T07.has (acc h b w s nof)).2 = T07.high (acc h b w s nof) := rfl
  have hcc : c = (if T07.high (acc h b w s nof) > h.sc then T07.high (acc h b w s nof) else 0) - k := by rw [hc]; rfl
  have g : c - h.sc ≤ T07.high (acc h b w s nof) ∧ c ≤ 100000 := by split at hcc <;> omega
  obtain ⟨q1, q2⟩ := tru_back t (c := c) hw hs ⟨h0, g.2⟩ g.1
  have hh := back_high h b w s c w s
  rw [if_pos ⟨rfl, rfl⟩] at hh
  refine ⟨q1, q2, fun k0 => ⟨?_, ?_⟩, fun k1 => ?_⟩
  · subst k0
    have low := has_le bd h00
    have ea : acc h (backB b w s c) w s nof = { acc h b w s nof with b1 := (acc h b w s nof).b1 + max 0 (c - h.sc), b2 := (acc h b w s nof).b2 + (c + h.sc) } := by
      unfold backB
      rw [acc_push, accS_back, if_pos ⟨rfl, rfl⟩]
    rw [ea]
    generalize acc h b w s nof = a at *
    unfold T07.has loss at *
    simp only at *
    split at hcc <;> omega
  · show T07.high _ ≤ _
    rw [hh]
    split at hcc <;> omega
  · show ¬ T07.high _ ≤ _
    rw [hh]
    split at hcc <;> omega
theorem weighN_nn (h : Hs) (b : List En) (s : Int) : ∀ n, 0 ≤ (weighN h b s n).2 ∧ ((weighN h b s n).2 = 0 → weighN h b s n = (0, 0))
  | 0 => ⟨Int.le_refl _, fun _ => rfl⟩
  | n + 1 => by
    obtain ⟨i1, i2⟩ := weighN_nn h b s n
    rw [weighN]
    split
    · exact ⟨by simp only; omega, fun h => by simp only at h; omega⟩
    · exact ⟨i1, i2⟩
theorem Tru.weigh (t : Tru h b r) {s : Nat} (hs : s < 2) : weighErr h b s = (if (weighN h b s 6).2 = 0 then 7 else 0) ∧ weighR h b s = weighN h b s 6 := by
  have e : weighErr h b s = (if (weighN h b s 6).2 = 0 then 7 else 0) := by
    unfold weighErr
    rw [t.liesErr hs, if_neg (by simp)]
  refine ⟨e, ?_⟩
  unfold weighR
  rw [e]
  split
  · rename_i g
    rw [if_neg (by decide)]
    exact ((weighN_nn h b s 6).2 g).symm
  · rfl
end
end Go.Proofs.Ytninkfpeeemcoaa.Ab.T07
