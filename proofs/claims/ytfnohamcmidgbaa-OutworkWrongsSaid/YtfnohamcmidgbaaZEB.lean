/- Contracts of the outworkers' reference: all sets of entries. -/
import Derived.Test.YtfnohamcmidgbaaZE6
import Derived.Test.YtfnohamcmidgbaaZO11
namespace Go.Proofs.Ytfnohamcmidgbaa.Ab.T07
open Go Go.RowKit
set_option linter.unusedVariables false
set_option linter.unusedSimpArgs false
set_option maxRecDepth 100000
/-- Lists one after another. -/
def catL {α : Type} (f : Int → List α) : Nat → Int → List α
  | 0, _ => []
  | c + 1, n => f n ++ catL f c (n + 1)
theorem catL_succ {α : Type} (f : Int → List α) : ∀ (c : Nat) (n : Int), catL f (c + 1) n = catL f c n ++ f (n + c)
  | 0, n => by simp [catL]
  | c + 1, n => by
    rw [catL, catL_succ f c (n + 1), catL, List.append_assoc]
    congr 3
    omega
theorem catL_nil {α : Type} {f : Int → List α} : ∀ (c : Nat) (n : Int), (∀ m, n ≤ m → m < n + c → f m = []) → catL f c n = []
  | 0, _, _ => rfl
  | c + 1, n, h => by
    rw [catL, h n (Int.le_refl _) (by omega), catL_nil c (n + 1) fun m h1 h2 => h m (by omega) (by omega)]
    rfl
theorem catL_mem {α : Type} {f : Int → List α} {x : α} : ∀ (c : Nat) (n : Int), x ∈ catL f c n → ∃ m, n ≤ m ∧ m < n + c ∧ x ∈ f m
  | 0, _, h => by cases h
  | c + 1, n, h => by
    rw [catL] at h
    rcases List.mem_append.1 h with h | h
    · exact ⟨n, Int.le_refl _, by omega, h⟩
    · obtain ⟨m, h1, h2, h3⟩ := catL_mem c (n + 1) h
      exact ⟨m, by omega, by omega, h3⟩
theorem catL_pow {α : Type} {f : Int → List α} : ∀ (c : Nat) (n : Int), (∀ j : Nat, j < c → (f (n + j)).length ≤ 2 ^ (c - 1 - j)) → (catL f c n).length + 1 ≤ 2 ^ c
  | 0, _, _ => by simp [catL]
  | c + 1, n, h => by
    have h0 := h 0 (by omega)
    have i := catL_pow c (n + 1) fun j hj => by
      have := h (j + 1) (by omega)
      rw [show n + 1 + (j : Int) = n + ((j + 1 : Nat) : Int) by omega]
      rw [show c - 1 - j = c + 1 - 1 - (j + 1) by omega]
      exact this
    rw [show c + 1 - 1 - 0 = c by omega, show n + ((0 : Nat) : Int) = n by omega] at h0
    rw [catL, List.length_append, Nat.pow_succ]
    omega
theorem catL_le {α : Type} {f : Int → List α} {n : Int} : ∀ (c d : Nat), c ≤ d → (catL f c n).length ≤ (catL f d n).length := fun c d h => by
  induction d with
  | zero => have : c = 0 := by omega
            rw [this]; exact Nat.le_refl _
  | succ d ih =>
    by_cases e : c = d + 1
    · rw [e]; exact Nat.le_refl _
    · have := ih (by omega)
      rw [catL_succ, List.length_append]
      omega
/-- All sets of so many numbers more. -/
def setsF (below : Int) : Nat → List Int → List (List Int)
  | 0, set => [set]
  | k + 1, set => catL (fun n => setsF below k (set ++ [n])) (below - nextI set).toNat (nextI set)
theorem nextI_snoc (set : List Int) (n : Int) : nextI (set ++ [n]) = n + 1 := by unfold nextI; simp
theorem setsF_nil {below : Int} : ∀ (k : Nat) (set : List Int), 1 ≤ k → nextI set + k > below → setsF below k set = []
  | 0, _, h, _ => by omega
  | k + 1, set, _, hb => by
    rw [setsF]
    refine catL_nil _ _ fun m h1 h2 => ?_
    by_cases hk : 1 ≤ k
    · exact setsF_nil k _ hk (by rw [nextI_snoc]; omega)
    · omega
theorem setsF_pow {below : Int} : ∀ (k : Nat) (set : List Int), (setsF below k set).length ≤ 2 ^ (below - nextI set).toNat
  | 0, set => by
    have : 0 < 2 ^ (below - nextI set).toNat := Nat.two_pow_pos _
    simp only [setsF, List.length_cons, List.length_nil]
    omega
  | k + 1, set => by
    have h := catL_pow (f := fun n => setsF below k (set ++ [n])) (below - nextI set).toNat (nextI set) fun j hj => by
      have i := setsF_pow (below := below) k (set ++ [nextI set + j])
      rw [nextI_snoc] at i
      rw [show (below - nextI set).toNat - 1 - j = (below - (nextI set + j + 1)).toNat by omega]
      exact i
    rw [setsF]
    omega
theorem setsF_mem {below : Int} : ∀ (k : Nat) (set s : List Int), s ∈ setsF below k set → 0 ≤ nextI set → (∀ x ∈ set, 0 ≤ x ∧ x < below) → s.length = set.length + k ∧ ∀ x ∈ s, 0 ≤ x ∧ x < below
  | 0, set, s, h, _, hx => by
    have : s = set := by simpa [setsF] using h
    subst this
    exact ⟨rfl, hx⟩
  | k + 1, set, s, h, hn, hx => by
    rw [setsF] at h
    obtain ⟨m, h1, h2, h3⟩ := catL_mem _ _ h
    obtain ⟨g1, g2⟩ := setsF_mem k (set ++ [m]) s h3 (by rw [nextI_snoc]; omega) fun x hx' => by
      rcases List.mem_append.1 hx' with g | g
      · exact hx x g
      · have : x = m := by simpa using g
        omega
    refine ⟨?_, g2⟩
    rw [g1]
    simp
    omega
theorem first_find {α : Type} {f : Int → List α} {p : α → Bool} : ∀ (c d : Nat) (n : Int), c ≤ d → (∀ m, n + c ≤ m → m < n + d → f m = []) → firstOf (fun n => (f n).find? p) c n = (catL f d n).find? p
  | 0, d, n, _, h => by
    rw [catL_nil d n fun m h1 h2 => h m (by omega) h2]
    rfl
  | c + 1, 0, n, hd, _ => by omega
  | c + 1, d + 1, n, hd, h => by
    rw [firstOf, catL, List.find?_append, first_find c d (n + 1) (by omega) fun m h1 h2 => h m (by omega) (by omega)]
    cases (f n).find? p <;> rfl
theorem from_find (p : List Int → Bool) (below : Int) : ∀ (k : Nat) (set : List Int), fromF p below k set = (setsF below k set).find? p
  | 0, set => by
    simp only [fromF, setsF, List.find?_cons, List.find?_nil]
    cases p set <;> rfl
  | k + 1, set => by
    rw [fromF_succ, setsF]
    have e : (fun n => fromF p below k (set ++ [n])) = fun n => (setsF below k (set ++ [n])).find? p := funext fun n => from_find p below k _
    rw [e]
    refine first_find _ _ _ (by omega) fun m h1 h2 => ?_
    by_cases hk : 1 ≤ k
    · exact setsF_nil k _ hk (by rw [nextI_snoc]; omega)
    · omega
def allL (n : Nat) : List Int := (List.range n).map fun i : Nat => (i : Int)
theorem allL_len (n : Nat) : (allL n).length = n := by simp [allL]
theorem allL_succ (n : Nat) : allL (n + 1) = allL n ++ [(n : Int)] := by unfold allL; rw [List.range_succ, List.map_append]; rfl
theorem nextI_all : ∀ n : Nat, nextI (allL n) = n
  | 0 => rfl
  | n + 1 => by rw [allL_succ, nextI_snoc]; omega
theorem sets_all : ∀ (k n : Nat), setsF ((n + k : Nat) : Int) k (allL n) = [allL (n + k)]
  | 0, n => rfl
  | k + 1, n => by
    rw [setsF, nextI_all]
    rw [show (((n + (k + 1) : Nat) : Int) - (n : Int)).toNat = k + 1 by omega, catL, ← allL_succ]
    have i := sets_all k (n + 1)
    rw [show n + 1 + k = n + (k + 1) by omega] at i
    rw [i, catL_nil _ _ fun m h1 h2 => ?_]
    · rfl
    · by_cases hk : 1 ≤ k
      · exact setsF_nil k _ hk (by rw [nextI_snoc]; omega)
      · omega
/-! ### a book with the kindest counts of a set -/
def kset (b : List En) (l : List Int) : List En := l.foldl (fun a x => setC a x.toNat (kindE (nth b x.toNat))) b
theorem kset_snoc (b : List En) (l : List Int) (x : Int) : kset b (l ++ [x]) = setC (kset b l) x.toNat (kindE (nth b x.toNat)) := by unfold kset; rw [List.foldl_append]; rfl
theorem kset_nth {b : List En} : ∀ (n : Nat) (l : List Int), l.length = n → (∀ x ∈ l, 0 ≤ x ∧ x < b.length) → (kset b l).length = b.length ∧ ∀ j : Nat, nth (kset b l) j = if frS l j then { nth b j with c := kindE (nth b j) } else nth b j
  | 0, l, hl, _ => by
    have : l = [] := List.eq_nil_of_length_eq_zero hl
    subst this
    exact ⟨rfl, fun j => by simp [kset, frS]⟩
  | n + 1, l, hl, hx => by
    obtain ⟨l', x, rfl⟩ : ∃ l' x, l = l' ++ [x] := ⟨l.dropLast, l.getLast (by intro h; simp [h] at hl), (List.dropLast_concat_getLast _).symm⟩
    have hl' : l'.length = n := by simp at hl; exact hl
    obtain ⟨i1, i2⟩ := kset_nth n l' hl' fun y hy => hx y (List.mem_append_left _ hy)
    have hxx := hx x (by simp)
    have hi : x.toNat < (kset b l').length := by rw [i1]; omega
    rw [kset_snoc]
    refine ⟨by rw [setC_len, i1], fun j => ?_⟩
    rw [setC_nth hi]
    have hf : frS (l' ++ [x]) j = (frS l' j || ((j : Int) == x)) := by rw [Bool.eq_iff_iff]; simp [frS, List.contains_eq_mem]
    rw [hf]
    by_cases e : j = x.toNat
    · have e2 : ((j : Int) == x) = true := by simp; omega
      rw [if_pos e, e2, Bool.or_true, if_pos rfl, i2, ← e]
      split <;> rfl
    · have e2 : ((j : Int) == x) = false := by simp; omega
      rw [if_neg e, e2, Bool.or_false, i2]
theorem kset_true {h : Hs} {b : List En} (hb : Ok h b) {l : List Int} (hx : ∀ x ∈ l, 0 ≤ x ∧ x < b.length) : trueB h (kset b l) nof = trueB h b (frS l) := by
  obtain ⟨i1, i2⟩ := kset_nth l.length l rfl hx
  have e : ∀ (w : Int) (s : Nat), ∀ j, j < b.length → hc h w s (nth (kset b l) j) (nof j) = hc h w s (nth b j) (frS l j) := fun w s j hj => by
    rw [i2]
    have hk := hb.kinds _ (nth_mem hj)
    cases hf : frS l j with
    | true => rw [if_pos rfl, hc_free h w s _ hk hb.hs.sc.1]; rfl
    | false => rfl
  rw [Bool.eq_iff_iff]
  constructor
  · exact fun g => trueB_le i1 (fun w s _ j hj => by rw [e w s j (by omega)]; exact Int.le_refl _) g
  · exact fun g => trueB_le i1.symm (fun w s _ j hj => by rw [e w s j hj]; exact Int.le_refl _) g
theorem kset_ok {h : Hs} {b : List En} (hb : Ok h b) {l : List Int} (hx : ∀ x ∈ l, 0 ≤ x ∧ x < b.length) : Ok h (kset b l) := by
  obtain ⟨i1, i2⟩ := kset_nth l.length l rfl hx
  refine ⟨hb.hs, by rw [i1]; exact hb.len, fun x hm => ?_⟩
  obtain ⟨j, hj, rfl⟩ := List.mem_iff_getElem.1 hm
  have e : (kset b l)[j] = nth (kset b l) j := by
    have := nth_eq (l := kset b l) (i := j) hj
    rw [List.getElem?_eq_getElem hj] at this
    exact Option.some.inj this
  rw [e, i2]
  have o := hb.en _ (nth_mem (l := b) (i := j) (by omega))
  split
  · refine ⟨o.w, o.k, ?_⟩
    have k1 := o.k
    unfold kindE mostE
    simp only
    split <;> split <;> omega
  · exact o
theorem hc_nn (h : Hs) (w s : Int) (x : En) (hsc : 0 ≤ h.sc) : 0 ≤ hc h w s { x with c := kindE x } false := by
  unfold hc accS cnt wgt
  simp only [Bool.false_eq_true, if_false]
  split
  · exact Int.le_refl 0
  · split
    · rename_i h3
      have : kindE x = 0 := by unfold kindE; rw [if_neg (by omega)]
      rw [this]
      simp [high]
    · split
      · exact Int.le_refl 0
      · split
        · rename_i h1
          have : kindE x = 100000 := by unfold kindE; rw [if_pos h1]
          rw [this]
          simp only [high]; omega
        · rename_i h1
          have : kindE x = 0 := by unfold kindE; rw [if_neg h1]
          rw [this]
          simp only [high]; omega
theorem all_true {h : Hs} {b : List En} (hb : Ok h b) : trueB h b (frS (allL b.length)) = true := by
  refine trueB_iff.2 fun w hw => okW_iff.2 fun s hs => ?_
  have hsc := hb.hs.sc.1
  have e : ∀ n : Nat, n ≤ b.length → 0 ≤ high (accN h b w s (frS (allL b.length)) n) := fun n => by
    induction n with
    | zero => intro _; exact Int.le_refl 0
    | succ n ih =>
      intro hn
      have i := ih (by omega)
      rw [accN, accS_high]
      have hf : frS (allL b.length) n = true := by
        simp only [frS, List.contains_eq_mem, decide_eq_true_eq]
        exact List.mem_map.2 ⟨n, List.mem_range.2 (by omega), rfl⟩
      have hk := hb.kinds _ (nth_mem (l := b) (i := n) (by omega))
      rw [hf, hc_free h w s _ hk hsc]
      have := hc_nn h w s (nth b n) hsc
      omega
  exact e b.length (Nat.le_refl _)
end Go.Proofs.Ytfnohamcmidgbaa.Ab.T07
