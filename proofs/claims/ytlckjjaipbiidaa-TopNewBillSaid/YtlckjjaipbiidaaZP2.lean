/- Plain: the bound is no more than what must be bought. -/
import Derived.Test.YtlckjjaipbiidaaZFB
namespace Go.Proofs.Ytlckjjaipbiidaa.Ab.T11
open Go Go.RowKit
set_option linter.unusedVariables false
set_option linter.unusedSimpArgs false
set_option maxRecDepth 100000
theorem cnt_at {f : List Sg} (hf : FsOk f) {k : Nat} (hk : k < f.length) : 2 ≤ cntT f k := by
  have := hf.ok _ (nth_mem hk)
  have h1 := this.low; have h2 := this.le
  unfold cntT ofT
  rw [if_pos hk]
  omega
theorem cnt_out {f : List Sg} {k : Nat} (hk : ¬ k < f.length) : cntT f k = 0 := by
  unfold cntT ofT
  rw [if_neg hk]
theorem tak_in {s : St} {f : List Sg} {k : Nat} (hk : k < f.length) : takF s f k = cntT f k + s.seam := by
  unfold takF takT
  rw [if_pos hk]
theorem tak_out {s : St} {f : List Sg} {k : Nat} (hk : ¬ k < f.length) : takF s f k = 0 := by
  unfold takF takT
  rw [if_neg hk]
theorem mis_big {s : St} (hs : s.Ok) {f : List Sg} (hf : FsOk f) {k : Nat} (hk : k < f.length) : ∀ n, misA (cntT f) (wntT f) s.seam (cntT f k) n = bigT (takF s f) (takF s f k) (wntT f) n
  | 0 => rfl
  | n + 1 => by
    have h1 := cnt_at hf hk
    have h2 := hs.seam
    rw [misA, bigT, mis_big hs hf hk n, tak_in hk]
    by_cases c : n < f.length
    · rw [tak_in c]
      by_cases cc : cntT f n ≥ cntT f k
      · rw [if_pos cc, if_pos (by omega)]
      · rw [if_neg cc, if_neg (by omega)]; omega
    · rw [cnt_out c, tak_out c, if_neg (by omega), if_neg (by omega)]; omega
theorem big_app (c : Int) (a b : List Int) : bigH c (a ++ b) = bigH c a + bigH c b := by simp [bigH]
theorem misL_big (m : Int) (l : List Int) (seam c : Int) : ∀ j, j ≤ l.length → misL m l seam c j = m - bigH (c + seam) ((holdL l seam).take j)
  | 0, _ => by simp [misL, bigH]
  | j + 1, h => by
    rw [misL, misL_big m l seam c j (by omega), take_hold l seam (by omega), big_app]
    have e : bigH (c + seam) [nth l j + seam] = if nth l j ≥ c then nth l j + seam else 0 := by
      simp only [bigH, List.map_cons, List.map_nil, List.sum_cons, List.sum_nil]
      by_cases cc : nth l j ≥ c
      · rw [if_pos cc, if_pos (by omega)]; omega
      · rw [if_neg cc, if_neg (by omega)]; omega
    rw [e]
    split <;> omega
theorem big_rep {c one : Int} (h : one ≥ c) : ∀ n, bigH c (List.replicate n one) = n * one
  | 0 => by simp [bigH]
  | n + 1 => by
    have e : bigH c (List.replicate (n + 1) one) = one + bigH c (List.replicate n one) := by
      simp [bigH, List.replicate_succ, h]
    rw [e, big_rep h n]
    have : ((n + 1 : Nat) : Int) * one = n * one + one := by
      rw [Int.natCast_add, Int.add_mul]; simp
    omega
theorem need_le {s : St} (hs : s.Ok) {f : List Sg} (hf : FsOk f) {pleats : Int} (hp : 40 ≤ pleats ∧ pleats ≤ 200) {k : Nat} (hk : k < f.length) : needI s f (pleats + s.seam) k ≤ newI s f pleats := by
  obtain ⟨_, h2⟩ := new_le hs hf hp.1
  obtain ⟨n, hn⟩ : ∃ n, n = newI s f pleats := ⟨_, rfl⟩
  rw [← hn] at h2 ⊢
  unfold feN at h2
  rw [feaB_iff] at h2
  have hseam := hs.seam
  have hck := cnt_bd hf k
  have hck2 := cnt_at hf hk
  have h3 := fea_big (c := takF s f k) (by rw [tak_in hk]; omega) (fun i => (tak_bd hs hf i).1) h2
  rw [cI_wN hf, ← mis_big hs hf hk 4] at h3
  have e1 : newH s pleats n = holdL s.leaves s.seam ++ List.replicate n (pleats + s.seam) := by simp [newH, holdL]
  rw [e1, big_app, big_rep (by rw [tak_in hk]; omega)] at h3
  have h4 : misI s f k ≤ n * (pleats + s.seam) := by
    unfold misI
    rw [misL_big _ _ _ _ _ (Nat.le_refl _)]
    have e2 : (holdL s.leaves s.seam).take s.leaves.length = holdL s.leaves s.seam := List.take_of_length_le (by simp [holdL])
    rw [e2, ← tak_in hk]
    omega
  obtain ⟨one, ho⟩ : ∃ one, one = pleats + s.seam := ⟨_, rfl⟩
  rw [← ho] at h4 ⊢
  have h5 : 0 ≤ (n : Int) * one := Int.mul_nonneg (by omega) (by omega)
  unfold needI
  have h6 : max 0 (misI s f k) + one - 1 < (n + 1) * one := by
    rw [Int.add_mul]; omega
  have h7 : (max 0 (misI s f k) + one - 1) / one < n + 1 := Int.ediv_lt_of_lt_mul (by omega) h6
  omega
theorem bdT_le {s : St} (hs : s.Ok) {f : List Sg} (hf : FsOk f) {pleats : Int} (hp : 40 ≤ pleats ∧ pleats ≤ 200) : ∀ k, k ≤ f.length → (bdT s f (pleats + s.seam) k).1 ≤ newI s f pleats
  | 0, _ => by simp [bdT]
  | k + 1, h => by
    have h1 := bdT_le hs hf hp k (by omega)
    have h2 := need_le hs hf hp (k := k) (by omega)
    rw [bdT]
    split
    · exact h2
    · exact h1
end Go.Proofs.Ytlckjjaipbiidaa.Ab.T11
