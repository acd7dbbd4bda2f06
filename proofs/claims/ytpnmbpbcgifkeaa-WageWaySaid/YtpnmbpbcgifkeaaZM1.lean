/- The fewest numbers: what Change chooses, plainly. -/
import Derived.Test.YtpnmbpbcgifkeaaZGE
import Derived.Test.YtpnmbpbcgifkeaaZH3
import Derived.Test.YtpnmbpbcgifkeaaZK7
import Derived.Test.YtpnmbpbcgifkeaaZK1
namespace Go.Proofs.Ytpnmbpbcgifkeaa.Ab.T12
open Go Go.RowKit
set_option linter.unusedVariables false
set_option linter.unusedSimpArgs false
set_option maxRecDepth 100000
/-- A bill without the numbers at these places. -/
def rubL (b : Bl) : List Nat → Bl
  | [] => b
  | i :: l => rubL (setN b i (-1)) l
theorem rubL_len : ∀ (l : List Nat) (b : Bl), (rubL b l).lines.length = b.lines.length
  | [], b => rfl
  | i :: l, b => by rw [rubL, rubL_len l, setN_len]
theorem rubL_app : ∀ (l m : List Nat) (b : Bl), rubL b (l ++ m) = rubL (rubL b l) m
  | [], m, b => rfl
  | i :: l, m, b => by simp only [List.cons_append, rubL]; exact rubL_app l m _
/-- The places of a mask. -/
def bitsL (N k : Nat) : List Nat := (List.range N).filter fun j => k.testBit j
theorem bitsL_succ (N k : Nat) : bitsL (N + 1) k = bitsL N k ++ if k.testBit N then [N] else [] := by
  unfold bitsL
  rw [List.range_succ, List.filter_append]
  cases h : k.testBit N <;> simp [h]
theorem rubT_bits (b : Bl) (k : Nat) : ∀ i, rubT b k i = rubL b (bitsL i k)
  | 0 => rfl
  | i + 1 => by
    rw [bitsL_succ, rubL_app, ← rubT_bits b k i]
    simp only [rubT]
    split <;> rfl
theorem lessB_bits (b : Bl) (k : Nat) : lessB b k = rubL b (bitsL (b.lines.length * 3 + 1) k) := rubT_bits b k _
theorem marksB_bits (b : Bl) (k : Nat) : marksB b k = (bitsL (b.lines.length * 3 + 1) k).map (markAt b.lines.length) := rfl
/-- Ascending places, from one on and below another. -/
def Inc : Nat → Nat → List Nat → Prop
  | _, _, [] => True
  | o, N, i :: l => o ≤ i ∧ i < N ∧ Inc (i + 1) N l
theorem Inc.mono : ∀ {l : List Nat} {o o' N : Nat}, Inc o N l → o' ≤ o → Inc o' N l
  | [], _, _, _, _, _ => trivial
  | i :: l, o, o', N, ⟨h1, h2, h3⟩, h => ⟨by omega, h2, h3⟩
theorem Inc.mem : ∀ {l : List Nat} {o N : Nat}, Inc o N l → ∀ i ∈ l, o ≤ i ∧ i < N
  | i :: l, o, N, ⟨h1, h2, h3⟩, j, hj => by
    rcases List.mem_cons.1 hj with rfl | hj
    · exact ⟨h1, h2⟩
    · have := h3.mem j hj
      omega
theorem inc_app : ∀ {l : List Nat} {o N : Nat}, Inc o N l → ∀ {i : Nat}, N ≤ i → o ≤ i → Inc o (i + 1) (l ++ [i])
  | [], o, N, _, i, h, ho => ⟨ho, by omega, trivial⟩
  | j :: l, o, N, ⟨h1, h2, h3⟩, i, h, ho => ⟨h1, by omega, inc_app h3 h (by omega)⟩
theorem Inc.wide : ∀ {l : List Nat} {o N M : Nat}, Inc o N l → N ≤ M → Inc o M l
  | [], _, _, _, _, _ => trivial
  | i :: l, o, N, M, ⟨h1, h2, h3⟩, h => ⟨h1, by omega, h3.wide h⟩
theorem bitsL_inc (k : Nat) : ∀ N, Inc 0 N (bitsL N k)
  | 0 => trivial
  | N + 1 => by
    rw [bitsL_succ]
    split
    · exact inc_app (bitsL_inc k N) (Nat.le_refl _) (by omega)
    · rw [List.append_nil]; exact (bitsL_inc k N).wide (by omega)
/-- Places by a rule are the places of a mask. -/
theorem mask_of (f : Nat → Bool) : ∀ N, ∃ k, k < 2 ^ N ∧ ∀ j, j < N → k.testBit j = f j
  | 0 => ⟨0, by simp, fun j hj => by omega⟩
  | N + 1 => by
    obtain ⟨k, hk, h⟩ := mask_of f N
    have hp : 2 ^ (N + 1) = 2 ^ N + 2 ^ N := by rw [Nat.pow_succ]; omega
    cases hf : f N with
    | false =>
      refine ⟨k, by omega, fun j hj => ?_⟩
      by_cases c : j = N
      · subst c; rw [hf]; exact Nat.testBit_lt_two_pow hk
      · exact h j (by omega)
    | true =>
      refine ⟨2 ^ N + k, by omega, fun j hj => ?_⟩
      by_cases c : j = N
      · subst c; rw [hf, Nat.testBit_two_pow_add_eq, Nat.testBit_lt_two_pow hk]; rfl
      · rw [Nat.testBit_two_pow_add_gt (by omega)]; exact h j (by omega)
theorem filter_inc : ∀ {N : Nat} {l : List Nat}, Inc 0 N l → (List.range N).filter (fun j => decide (j ∈ l)) = l := by
  have gen : ∀ (d o : Nat) (l : List Nat), Inc o (o + d) l → (List.range' o d).filter (fun j => decide (j ∈ l)) = l := by
    intro d
    induction d with
    | zero =>
      intro o l h
      cases l with
      | nil => rfl
      | cons i l => have := h.2.1; have := h.1; omega
    | succ d ih =>
      intro o l h
      rw [List.range'_succ]
      cases l with
      | nil => simp
      | cons i l =>
        obtain ⟨h1, h2, h3⟩ := h
        by_cases c : i = o
        · subst c
          have e := ih (i + 1) l (by rw [show i + 1 + d = i + (d + 1) by omega]; exact h3)
          rw [List.filter_cons_of_pos (by simp)]
          congr 1
          refine (List.filter_congr fun j hj => ?_).trans e
          have := List.mem_range'_1.1 hj
          have hji : j ≠ i := by omega
          simp [hji]
        · have hno : o ∉ i :: l := fun hm => by
            rcases List.mem_cons.1 hm with h | h
            · exact c h.symm
            · have := (h3.mem o h).1; omega
          rw [List.filter_cons_of_neg (by simpa using hno)]
          exact ih (o + 1) (i :: l) ⟨by omega, by omega, by rw [show o + 1 + d = o + (d + 1) by omega]; exact h3⟩
  intro N l h
  rw [List.range_eq_range']
  exact gen N 0 l (by rw [Nat.zero_add]; exact h)
theorem mask_inc {N : Nat} {l : List Nat} (h : Inc 0 N l) : ∃ k, k < 2 ^ N ∧ bitsL N k = l := by
  obtain ⟨k, hk, he⟩ := mask_of (fun j => decide (j ∈ l)) N
  exact ⟨k, hk, (List.filter_congr fun j hj => he j (List.mem_range.1 hj)).trans (filter_inc h)⟩
/-- In the order of words. -/
def lexL : List Nat → List Nat → Prop
  | [], _ => True
  | _ :: _, [] => False
  | a :: A, b :: B => a < b ∨ (a = b ∧ lexL A B)
theorem lexL_refl : ∀ l, lexL l l
  | [] => trivial
  | a :: l => .inr ⟨rfl, lexL_refl l⟩
theorem lexL_trans : ∀ {a b c : List Nat}, lexL a b → lexL b c → lexL a c
  | [], _, _, _, _ => trivial
  | x :: a, [], _, h, _ => h.elim
  | x :: a, y :: b, [], _, h => h.elim
  | x :: a, y :: b, z :: c, h1, h2 => by
    rcases h1 with h1 | ⟨h1, h1'⟩ <;> rcases h2 with h2 | ⟨h2, h2'⟩
    · exact .inl (by omega)
    · exact .inl (by omega)
    · exact .inl (by omega)
    · exact .inr ⟨by omega, lexL_trans h1' h2'⟩
theorem lexL_total : ∀ (a b : List Nat), a.length = b.length → lexL a b ∨ lexL b a
  | [], _, _ => .inl trivial
  | _ :: _, [], h => by simp at h
  | x :: a, y :: b, h => by
    by_cases c : x < y
    · exact .inl (.inl c)
    · by_cases d : y < x
      · exact .inr (.inl d)
      · rcases lexL_total a b (by simpa using h) with h1 | h1
        · exact .inl (.inr ⟨by omega, h1⟩)
        · exact .inr (.inr ⟨by omega, h1⟩)
theorem bef_mark {n i j : Nat} (hi : i ≤ n * 3) (hj : j ≤ n * 3) : (i < j → bef (markAt n i) (markAt n j) < 0) ∧ (i = j → bef (markAt n i) (markAt n j) = 0) ∧ (j < i → bef (markAt n i) (markAt n j) > 0) := by
  unfold bef or2 markAt
  refine ⟨fun h => ?_, fun h => ?_, fun h => ?_⟩ <;> split <;> split <;> split <;> simp only at * <;> omega
theorem cmpL_lex {n : Nat} : ∀ {A B : List Nat}, A.length = B.length → (∀ i ∈ A, i ≤ n * 3) → (∀ i ∈ B, i ≤ n * 3) → (cmpL (A.map (markAt n)) (B.map (markAt n)) > 0 ↔ ¬ lexL A B)
  | [], [], _, _, _ => by simp [cmpL, lexL]
  | [], _ :: _, h, _, _ => by simp at h
  | _ :: _, [], h, _, _ => by simp at h
  | x :: A, y :: B, h, hA, hB => by
    have ih := cmpL_lex (n := n) (A := A) (B := B) (by simpa using h) (fun i hi => hA i (by simp [hi])) fun i hi => hB i (by simp [hi])
    obtain ⟨b1, b2, b3⟩ := bef_mark (hA x (by simp)) (hB y (by simp))
    simp only [List.map_cons, cmpL, lexL]
    by_cases c1 : x < y
    · have := b1 c1
      rw [if_pos (by omega)]
      constructor
      · intro h; omega
      · intro h; exact absurd (.inl c1) h
    · by_cases c2 : y < x
      · have := b3 c2
        rw [if_pos (by omega)]
        constructor
        · intro _ hh
          rcases hh with hh | hh
          · omega
          · omega
        · intro _; omega
      · have c3 : x = y := by omega
        have := b2 c3
        rw [if_neg (by omega), ih]
        constructor
        · intro h1 h2
          rcases h2 with h2 | h2
          · omega
          · exact h1 h2.2
        · intro h1 h2
          exact h1 (.inr ⟨c3, h2⟩)
end Go.Proofs.Ytpnmbpbcgifkeaa.Ab.T12
