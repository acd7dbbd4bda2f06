/- Plain: when fans can be cut; what the least loss says; how many new leaves are enough, and how few. -/
import Derived.Test.YtlckjjaipbiidaaZF8
namespace Go.Proofs.Ytlckjjaipbiidaa.Ab.T11
open Go Go.RowKit
set_option linter.unusedVariables false
set_option linter.unusedSimpArgs false
set_option maxRecDepth 100000
/-- Can the fans be made of the bins? -/
def Fea (T : Nat → Int) : List Int → (Nat → Nat) → Prop
  | [], A => ∀ i, i < 4 → A i = 0
  | h :: hs, A => ∃ C : Nat → Nat, (∀ i, i < 4 → C i ≤ A i) ∧ dotT (cI C) T 4 ≤ h ∧ Fea T hs (fun i => A i - C i)
theorem dotT_congr {C D T : Nat → Int} : ∀ {n : Nat}, (∀ i, i < n → C i = D i) → dotT C T n = dotT D T n
  | 0, _ => rfl
  | n + 1, h => by rw [dotT, dotT, dotT_congr (n := n) fun i hi => h i (by omega), h n (by omega)]
theorem Fea.congr {T : Nat → Int} : ∀ {hs : List Int} {A B : Nat → Nat}, (∀ i, i < 4 → A i = B i) → Fea T hs A → Fea T hs B
  | [], A, B, h, hf => fun i hi => by rw [← h i hi]; exact hf i hi
  | x :: hs, A, B, h, ⟨C, h1, h2, h3⟩ => ⟨C, fun i hi => by rw [← h i hi]; exact h1 i hi, h2, Fea.congr (fun i hi => by rw [h i hi]) h3⟩
theorem fea_dig {T : Nat → Int} {h : Int} {hs : List Int} {A : Nat → Nat} : Fea T (h :: hs) A ↔ ∃ q, q < prd A 4 ∧ fitsB T (dgI A q) h = true ∧ Fea T hs (lessN A q) := by
  constructor
  · rintro ⟨C, h1, h2, h3⟩
    obtain ⟨q, hq, hd⟩ := dig_all A C 4 h1
    refine ⟨q, hq, ?_, Fea.congr (fun i hi => ?_) h3⟩
    · have : dotT (dgI A q) T 4 = dotT (cI C) T 4 := dotT_congr fun i hi => by simp only [dgI, cI, hd i hi]
      simp only [fitsB, this, decide_eq_true_eq]
      exact h2
    · simp only [lessN, hd i hi]
  · rintro ⟨q, hq, h2, h3⟩
    refine ⟨dig A q, fun i _ => dig_le A q i, ?_, h3⟩
    have h2' : dotT (dgI A q) T 4 ≤ h := by simpa [fitsB] using h2
    exact h2'
/-- What the least loss is. -/
def feaB (T : Nat → Int) : List Int → (Nat → Nat) → Bool
  | [], A => zerB A
  | h :: hs, A => (List.range (prd A 4)).any fun q => fitsB T (dgI A q) h && feaB T hs (lessN A q)
theorem zer_fea (T : Nat → Int) (A : Nat → Nat) : (zerB A = true) ↔ Fea T [] A := by
  simp only [zerB, decide_eq_true_eq, Fea]
  constructor
  · rintro ⟨a, b, c, d⟩ i hi
    rcases (by omega : i = 0 ∨ i = 1 ∨ i = 2 ∨ i = 3) with rfl | rfl | rfl | rfl <;> assumption
  · intro h; exact ⟨h 0 (by omega), h 1 (by omega), h 2 (by omega), h 3 (by omega)⟩
theorem feaB_iff (T : Nat → Int) : ∀ (hs : List Int) (A : Nat → Nat), feaB T hs A = true ↔ Fea T hs A
  | [], A => zer_fea T A
  | h :: hs, A => by
    rw [fea_dig]
    simp only [feaB, List.any_eq_true, List.mem_range, Bool.and_eq_true, feaB_iff T hs]
def valI (T : Nat → Int) (hs : List Int) (A : Nat → Nat) : Int := if feaB T hs A then 0 else noneI
theorem valI_congr {T : Nat → Int} {hs : List Int} {A B : Nat → Nat} (h : ∀ i, i < 4 → A i = B i) : valI T hs A = valI T hs B := by
  have : feaB T hs A = feaB T hs B := by
    rw [Bool.eq_iff_iff, feaB_iff, feaB_iff]
    exact ⟨Fea.congr h, Fea.congr fun i hi => (h i hi).symm⟩
  unfold valI
  rw [this]
/-- What is known is right. -/
def MS (T : Nat → Int) (hs : List Int) (f : Memo) : Prop := ∀ fr A y, f (keyL fr A) = some y → y = valI T (hs.drop fr) A
theorem keyL_inj {a b : Nat} {A B : Nat → Nat} (h : keyL a A = keyL b B) : a = b ∧ ∀ i, i < 4 → A i = B i := by
  simp only [keyL, cI, List.cons.injEq, and_true] at h
  refine ⟨by omega, fun i hi => ?_⟩
  rcases (by omega : i = 0 ∨ i = 1 ∨ i = 2 ∨ i = 3) with rfl | rfl | rfl | rfl <;> omega
def anyT (T : Nat → Int) (rest : List Int) (h : Int) (A : Nat → Nat) (q : Nat) : Bool := (List.range q).any fun p => fitsB T (dgI A p) h && feaB T rest (lessN A p)
theorem anyT_succ (T : Nat → Int) (rest : List Int) (h : Int) (A : Nat → Nat) (q : Nat) : anyT T rest h A (q + 1) = (anyT T rest h A q || (fitsB T (dgI A q) h && feaB T rest (lessN A q))) := by
  simp [anyT, List.range_succ]
theorem acc_val {T : Nat → Int} {hs : List Int} {rc : (Nat → Nat) → Memo → Int × Memo} {rest : List Int} (hrc : ∀ A f, MS T hs f → (rc A f).1 = valI T rest A ∧ MS T hs (rc A f).2) {h : Int} {A : Nat → Nat} {f : Memo} (hf : MS T hs f) : ∀ q,
    (accM rc T h A f q).1 = (if anyT T rest h A q then 0 else noneI) ∧ MS T hs (accM rc T h A f q).2
  | 0 => ⟨rfl, hf⟩
  | q + 1 => by
    obtain ⟨h1, h2⟩ := acc_val hrc (h := h) (A := A) hf q
    obtain ⟨h3, h4⟩ := hrc (lessN A q) _ h2
    simp only [accM, stepM]
    rw [anyT_succ]
    by_cases hfit : fitsB T (dgI A q) h = true
    · rw [if_pos hfit]
      refine ⟨?_, h4⟩
      simp only
      rw [h1, h3, hfit, Bool.true_and]
      unfold valI
      cases anyT T rest h A q <;> cases feaB T rest (lessN A q) <;> decide
    · rw [if_neg hfit]
      refine ⟨?_, h2⟩
      rw [h1]
      simp [hfit]
theorem least_val (T : Nat → Int) (hs : List Int) : ∀ (r : Nat) (fr : Nat), fr + r = hs.length → ∀ (A : Nat → Nat) (f : Memo), MS T hs f → (leastM T hs r A f).1 = valI T (hs.drop fr) A ∧ MS T hs (leastM T hs r A f).2
  | 0, fr, hfr, A, f, hf => by
    have e : hs.drop fr = [] := List.drop_eq_nil_of_le (by omega)
    simp only [leastM, e]
    refine ⟨?_, hf⟩
    rfl
  | r + 1, fr, hfr, A, f, hf => by
    have er : hs.length - (r + 1) = fr := by omega
    cases hm : f (keyL fr A) with
    | some y =>
      rw [leastM_some (by rw [er]; exact hm)]
      exact ⟨hf _ _ _ hm, hf⟩
    | none =>
      rw [leastM_none (by rw [er]; exact hm), er]
      obtain ⟨h1, h2⟩ := acc_val (fun A f hf => least_val T hs r (fr + 1) (by omega) A f hf) (h := nth hs fr) (A := A) hf (prd A 4)
      have ed : hs.drop fr = nth hs fr :: hs.drop (fr + 1) := by
        have := nth_eq (l := hs) (i := fr) (by omega)
        rw [List.getElem?_eq_getElem (by omega)] at this
        rw [List.drop_eq_getElem_cons (by omega), Option.some.inj this]
      have hv : (accM (leastM T hs r) T (nth hs fr) A f (prd A 4)).1 = valI T (hs.drop fr) A := by
        rw [h1, ed]
        rfl
      refine ⟨hv, fun fr' B y hy => ?_⟩
      simp only [msetK] at hy
      split at hy
      · rename_i e
        obtain ⟨e1, e2⟩ := keyL_inj e
        cases hy
        rw [hv, e1]
        exact valI_congr fun i hi => (e2 i hi).symm
      · exact h2 fr' B y hy
theorem ms_none (T : Nat → Int) (hs : List Int) : MS T hs fun _ => none := fun fr A y h => by cases h
/-! ### enough leaves; too few leaves -/
theorem dot_zero (T : Nat → Int) : ∀ n, dotT (cI fun _ => 0) T n = 0
  | 0 => rfl
  | n + 1 => by rw [dotT, dot_zero T n]; simp [cI]
theorem fea_skip {T : Nat → Int} {A : Nat → Nat} {rest : List Int} : ∀ {hs : List Int}, (∀ h ∈ hs, 0 ≤ h) → Fea T rest A → Fea T (hs ++ rest) A
  | [], _, h => h
  | x :: hs, hx, h => by
    refine ⟨fun _ => 0, fun i _ => Nat.zero_le _, ?_, ?_⟩
    · rw [dot_zero]; exact hx x (by simp)
    · exact fea_skip (A := A) (fun y hy => hx y (List.mem_cons_of_mem _ hy)) h
def sumN (A : Nat → Nat) : Nat → Nat
  | 0 => 0
  | k + 1 => sumN A k + A k
def oneN (k : Nat) : Nat → Nat := fun i => if i = k then 1 else 0
theorem dot_one (T : Nat → Int) (k : Nat) : ∀ n, dotT (cI (oneN k)) T n = if k < n then T k else 0
  | 0 => by simp [dotT]
  | n + 1 => by
    rw [dotT, dot_one T k n]
    by_cases c : k < n
    · have e : cI (oneN k) n = 0 := by simp only [cI, oneN]; rw [if_neg (by omega)]; rfl
      rw [if_pos c, if_pos (by omega), e]; omega
    · by_cases e : n = k
      · have e1 : cI (oneN k) n = 1 := by simp only [cI, oneN]; rw [if_pos e]; rfl
        rw [if_neg c, if_pos (by omega), e1, e]; omega
      · have e1 : cI (oneN k) n = 0 := by simp only [cI, oneN]; rw [if_neg e]; rfl
        rw [if_neg c, if_neg (by omega), e1]; omega
theorem sum_pos {A : Nat → Nat} : ∀ {n : Nat}, 0 < sumN A n → ∃ k, k < n ∧ 0 < A k
  | 0, h => by simp [sumN] at h
  | n + 1, h => by
    by_cases c : 0 < A n
    · exact ⟨n, by omega, c⟩
    · rw [sumN] at h
      obtain ⟨k, h1, h2⟩ := sum_pos (A := A) (n := n) (by omega)
      exact ⟨k, by omega, h2⟩
theorem sum_ge {A : Nat → Nat} {k : Nat} (hk : 0 < A k) : ∀ n, k < n → 0 < sumN A n
  | 0, h => by omega
  | n + 1, h => by
    rw [sumN]
    by_cases e : k = n
    · subst e; omega
    · have := sum_ge hk n (by omega); omega
theorem sum_less {A : Nat → Nat} {k : Nat} (hk : 0 < A k) : ∀ n, sumN (fun i => A i - oneN k i) n = if k < n then sumN A n - 1 else sumN A n
  | 0 => by simp [sumN]
  | n + 1 => by
    rw [sumN, sumN, sum_less hk n]
    by_cases c : k < n
    · have h1 := sum_ge hk n c
      have e : oneN k n = 0 := by simp only [oneN]; rw [if_neg (by omega)]
      rw [if_pos c, if_pos (by omega), e]
      omega
    · by_cases e : n = k
      · have e1 : oneN k n = 1 := by simp only [oneN]; rw [if_pos e]
        have h1 : 0 < A n := by rw [e]; exact hk
        rw [if_neg c, if_pos (by omega), e1]; omega
      · have e1 : oneN k n = 0 := by simp only [oneN]; rw [if_neg e]
        rw [if_neg c, if_neg (by omega), e1]; omega
theorem sum_zero {A : Nat → Nat} : ∀ {n : Nat}, sumN A n = 0 → ∀ i, i < n → A i = 0
  | 0, _, i, hi => by omega
  | n + 1, h, i, hi => by
    rw [sumN] at h
    by_cases e : i = n
    · subst e; omega
    · exact sum_zero (n := n) (by omega) i (by omega)
/-- A leaf for each fan is enough. -/
theorem fea_each {T : Nat → Int} {one : Int} (hT : ∀ i, T i ≤ one) : ∀ (n : Nat) (A : Nat → Nat), sumN A 4 = n → Fea T (List.replicate n one) A
  | 0, A, h => fun i hi => sum_zero h i hi
  | n + 1, A, h => by
    obtain ⟨k, hk, hp⟩ := sum_pos (A := A) (n := 4) (by omega)
    refine ⟨oneN k, fun i hi => ?_, ?_, ?_⟩
    · simp only [oneN]; split
      · subst_vars; omega
      · omega
    · rw [dot_one, if_pos hk]; exact hT k
    · refine fea_each hT n _ ?_
      rw [sum_less hp, if_pos hk, h]; omega
/-- What the fans that take no less than c take together. -/
def bigT (T : Nat → Int) (c : Int) (C : Nat → Int) : Nat → Int
  | 0 => 0
  | k + 1 => bigT T c C k + if T k ≥ c then C k * T k else 0
def bigH (c : Int) (hs : List Int) : Int := (hs.map fun h => if h ≥ c then h else 0).sum
theorem big_bin {T : Nat → Int} {c : Int} (hc : 0 < c) (hT : ∀ i, 0 ≤ T i) (C : Nat → Nat) : ∀ n, bigT T c (cI C) n ≤ dotT (cI C) T n ∧ 0 ≤ bigT T c (cI C) n ∧ (dotT (cI C) T n < c → bigT T c (cI C) n = 0)
  | 0 => by simp [bigT, dotT]
  | n + 1 => by
    obtain ⟨h1, h2, h3⟩ := big_bin hc hT C n
    have h4 : 0 ≤ cI C n * T n := Int.mul_nonneg (by simp only [cI]; omega) (hT n)
    rw [bigT, dotT]
    refine ⟨by split <;> omega, by split <;> omega, fun h => ?_⟩
    have h5 : bigT T c (cI C) n = 0 := h3 (by omega)
    rw [h5]
    split
    · rename_i hge
      by_cases e : C n = 0
      · simp [cI, e]
      · exfalso
        have : 1 * T n ≤ cI C n * T n := Int.mul_le_mul_of_nonneg_right (by simp only [cI]; omega) (hT n)
        omega
    · rfl
theorem big_sub {T : Nat → Int} {c : Int} {A C : Nat → Nat} : ∀ n, (∀ i, i < n → C i ≤ A i) → bigT T c (cI A) n = bigT T c (cI C) n + bigT T c (cI fun i => A i - C i) n
  | 0, _ => by simp [bigT]
  | n + 1, h => by
    rw [bigT, bigT, bigT, big_sub n fun i hi => h i (by omega)]
    have h1 := h n (by omega)
    have e : cI A n = cI C n + cI (fun i => A i - C i) n := by simp only [cI]; omega
    split
    · rw [e, Int.add_mul]; omega
    · omega
theorem big_zero {T : Nat → Int} {c : Int} {A : Nat → Nat} : ∀ n, (∀ i, i < n → A i = 0) → bigT T c (cI A) n = 0
  | 0, _ => rfl
  | n + 1, h => by
    rw [bigT, big_zero n fun i hi => h i (by omega)]
    simp [cI, h n (by omega)]
/-- Of too few leaves the fans cannot be made. -/
theorem fea_big {T : Nat → Int} {c : Int} (hc : 0 < c) (hT : ∀ i, 0 ≤ T i) : ∀ {hs : List Int} {A : Nat → Nat}, Fea T hs A → bigT T c (cI A) 4 ≤ bigH c hs
  | [], A, h => by rw [big_zero 4 h]; simp [bigH]
  | x :: hs, A, ⟨C, h1, h2, h3⟩ => by
    have h4 := fea_big hc hT h3
    obtain ⟨b1, b2, b3⟩ := big_bin hc hT C 4
    rw [big_sub 4 h1]
    have e : bigH c (x :: hs) = (if x ≥ c then x else 0) + bigH c hs := by simp [bigH]
    rw [e]
    split
    · omega
    · have := b3 (by omega)
      omega
end Go.Proofs.Ytlckjjaipbiidaa.Ab.T11
