/- The fewest numbers: Change's answer and the search's are the same. -/
import Derived.Test.YtpnmbpbcgifkeaaZM2
namespace Go.Proofs.Ytpnmbpbcgifkeaa.Ab.T12
open Go Go.RowKit
set_option linter.unusedVariables false
set_option linter.unusedSimpArgs false
set_option maxRecDepth 100000
/-- The least list of places without which a bill can be right. -/
def Best (b : Bl) (l : List Nat) : Prop := Inc 0 (b.lines.length * 3 + 1) l ∧ posP (rubL b l) ∧ ∀ m, Inc 0 (b.lines.length * 3 + 1) m → posP (rubL b m) → l.length < m.length ∨ (l.length = m.length ∧ lexL l m)
theorem Best.uniq {b : Bl} {l m : List Nat} (h1 : Best b l) (h2 : Best b m) : l = m := by
  have g1 := h1.2.2 m h2.1 h2.2.1
  have g2 := h2.2.2 l h1.1 h1.2.1
  rcases g1 with g1 | ⟨g1, g3⟩
  · rcases g2 with g2 | g2 <;> omega
  · rcases g2 with g2 | ⟨g2, g4⟩
    · omega
    · exact lexL_anti g1 g3 g4
def goodK (b : Bl) (k : Nat) : Prop := posP (rubL b (bitsL (b.lines.length * 3 + 1) k))
theorem marksB_len (b : Bl) (k : Nat) : (marksB b k).length = (bitsL (b.lines.length * 3 + 1) k).length := by rw [marksB_bits, List.length_map]
theorem popc_bits {b : Bl} {k : Nat} (h : k < 2 ^ (b.lines.length * 3 + 1)) : popc k = (bitsL (b.lines.length * 3 + 1) k).length := popc_count _ k h
theorem chgT_inv {b : Bl} (h : Rd b) : ∀ i, i ≤ 2 ^ (b.lines.length * 3 + 1) →
    (chgT b (wrongN b b.lines.length) i = [] ∧ ∀ k, k < i → goodK b k → wrongN b b.lines.length + 1 < popc k) ∨
    (∃ k, k < i ∧ goodK b k ∧ popc k ≤ wrongN b b.lines.length + 1 ∧ chgT b (wrongN b b.lines.length) i = marksB b k ∧ ∀ m, m < i → goodK b m → popc k < popc m ∨ (popc k = popc m ∧ lexL (bitsL (b.lines.length * 3 + 1) k) (bitsL (b.lines.length * 3 + 1) m)))
  | 0, _ => .inl ⟨rfl, fun k hk => by omega⟩
  | i + 1, hi => by
    have ih := chgT_inv h i (by omega)
    have hin : ∀ k, Inc 0 (b.lines.length * 3 + 1) (bitsL (b.lines.length * 3 + 1) k) := fun k => bitsL_inc k _
    have hle : ∀ k, ∀ j ∈ bitsL (b.lines.length * 3 + 1) k, j ≤ b.lines.length * 3 := fun k j hj => by have := ((hin k).mem j hj).2; omega
    have hpi : popc i = (bitsL (b.lines.length * 3 + 1) i).length := popc_bits (by omega)
    have hstep : chgT b (wrongN b b.lines.length) (i + 1) = stepC b (wrongN b b.lines.length) (chgT b (wrongN b b.lines.length) i) i := rfl
    by_cases hg : goodK b i
    · have hw : wrongN b b.lines.length ≤ popc i := by rw [hpi]; exact wrong_few h (hin i) hg
      have hpos : isPos (lessB b i) = true := isPos_iff.2 (by rw [lessB_bits]; exact hg)
      have hho : ¬ (lessB b i).lines.any hopeless = true := fun hc => any_hopeless hc (isPos_iff.1 hpos)
      by_cases c1 : popc i > wrongN b b.lines.length + 1
      · have e : chgT b (wrongN b b.lines.length) (i + 1) = chgT b (wrongN b b.lines.length) i := by rw [hstep]; unfold stepC; rw [if_pos (.inr (.inl c1))]
        rw [e]
        rcases ih with ⟨h1, h2⟩ | ⟨k, h1, h2, h3, h4, h5⟩
        · exact .inl ⟨h1, fun k hk hgk => by
            by_cases c : k = i
            · subst c; exact c1
            · exact h2 k (by omega) hgk⟩
        · exact .inr ⟨k, by omega, h2, h3, h4, fun m hm hgm => by
            by_cases c : m = i
            · subst c; exact .inl (by omega)
            · exact h5 m (by omega) hgm⟩
      · rcases ih with ⟨h1, h2⟩ | ⟨k, h1, h2, h3, h4, h5⟩
        · have e : chgT b (wrongN b b.lines.length) (i + 1) = marksB b i := by
            rw [hstep]
            unfold stepC
            rw [if_neg (by rw [h1]; simp; omega), if_neg]
            rintro (⟨hc, _⟩ | hc | hc)
            · exact hc h1
            · exact hho hc
            · rw [hpos] at hc; cases hc
          refine .inr ⟨i, by omega, hg, by omega, e, fun m hm hgm => ?_⟩
          by_cases c : m = i
          · subst c; exact .inr ⟨rfl, lexL_refl _⟩
          · have := h2 m (by omega) hgm
            exact .inl (by omega)
        · have hpk : popc k = (bitsL (b.lines.length * 3 + 1) k).length := popc_bits (by omega)
          have hbl : (chgT b (wrongN b b.lines.length) i).length = popc k := by rw [h4, marksB_len, hpk]
          have hbn : chgT b (wrongN b b.lines.length) i ≠ [] := fun hc => by
            rw [hc] at hbl
            have := List.length_pos_iff.2 (good_some h h2)
            simp at hbl
            omega
          by_cases c2 : popc i > popc k
          · have e : chgT b (wrongN b b.lines.length) (i + 1) = chgT b (wrongN b b.lines.length) i := by rw [hstep]; unfold stepC; rw [if_pos (.inr (.inr ⟨hbn, by omega⟩))]
            rw [e]
            exact .inr ⟨k, by omega, h2, h3, h4, fun m hm hgm => by
              by_cases c : m = i
              · subst c; exact .inl c2
              · exact h5 m (by omega) hgm⟩
          · have n1 : ¬ (popc i < wrongN b b.lines.length ∨ popc i > wrongN b b.lines.length + 1 ∨ (chgT b (wrongN b b.lines.length) i ≠ [] ∧ popc i > (chgT b (wrongN b b.lines.length) i).length)) := by
              rintro (hc | hc | hc)
              · omega
              · omega
              · have := hc.2; omega
            by_cases c3 : popc i = popc k ∧ cmpL (marksB b i) (marksB b k) > 0
            · have e : chgT b (wrongN b b.lines.length) (i + 1) = chgT b (wrongN b b.lines.length) i := by
                rw [hstep]
                unfold stepC
                rw [if_neg n1, if_pos (.inl ⟨hbn, by omega, by rw [h4]; exact c3.2⟩)]
              have hlen : (bitsL (b.lines.length * 3 + 1) i).length = (bitsL (b.lines.length * 3 + 1) k).length := by omega
              have hnl : ¬ lexL (bitsL (b.lines.length * 3 + 1) i) (bitsL (b.lines.length * 3 + 1) k) := (cmpL_lex hlen (hle i) (hle k)).1 (by rw [← marksB_bits, ← marksB_bits]; exact c3.2)
              have hl2 := (lexL_total _ _ hlen).resolve_left hnl
              rw [e]
              exact .inr ⟨k, by omega, h2, h3, h4, fun m hm hgm => by
                by_cases c : m = i
                · subst c; exact .inr ⟨by omega, hl2⟩
                · exact h5 m (by omega) hgm⟩
            · have e : chgT b (wrongN b b.lines.length) (i + 1) = marksB b i := by
                rw [hstep]
                unfold stepC
                rw [if_neg n1, if_neg]
                rintro (⟨_, hc1, hc2⟩ | hc | hc)
                · exact c3 ⟨by omega, by rw [← h4]; exact hc2⟩
                · exact hho hc
                · rw [hpos] at hc; cases hc
              refine .inr ⟨i, by omega, hg, by omega, e, fun m hm hgm => ?_⟩
              by_cases c : m = i
              · subst c; exact .inr ⟨rfl, lexL_refl _⟩
              · have h6 := h5 m (by omega) hgm
                by_cases c4 : popc i < popc k
                · rcases h6 with h6 | h6
                  · exact .inl (by omega)
                  · exact .inl (by omega)
                · have hlen : (bitsL (b.lines.length * 3 + 1) i).length = (bitsL (b.lines.length * 3 + 1) k).length := by omega
                  have hl1 : lexL (bitsL (b.lines.length * 3 + 1) i) (bitsL (b.lines.length * 3 + 1) k) := Classical.byContradiction fun hn => c3 ⟨by omega, by rw [marksB_bits, marksB_bits]; exact (cmpL_lex hlen (hle i) (hle k)).2 hn⟩
                  rcases h6 with h6 | h6
                  · exact .inl (by omega)
                  · exact .inr ⟨by omega, lexL_trans hl1 h6.2⟩
    · have hnp : isPos (lessB b i) = false := by
        cases hc : isPos (lessB b i) with
        | false => rfl
        | true => exact absurd (by have := isPos_iff.1 hc; rw [lessB_bits] at this; exact this) hg
      have e : chgT b (wrongN b b.lines.length) (i + 1) = chgT b (wrongN b b.lines.length) i := by
        rw [hstep]
        unfold stepC
        split
        · rfl
        · rw [if_pos (.inr (.inr hnp))]
      rw [e]
      rcases ih with ⟨h1, h2⟩ | ⟨k, h1, h2, h3, h4, h5⟩
      · exact .inl ⟨h1, fun k hk hgk => by
          by_cases c : k = i
          · subst c; exact absurd hgk hg
          · exact h2 k (by omega) hgk⟩
      · exact .inr ⟨k, by omega, h2, h3, h4, fun m hm hgm => by
          by_cases c : m = i
          · subst c; exact absurd hgm hg
          · exact h5 m (by omega) hgm⟩
theorem chgT_best {b : Bl} (h : Rd b) : ∃ l, Best b l ∧ chgT b (wrongN b b.lines.length) (2 ^ (b.lines.length * 3 + 1)) = l.map (markAt b.lines.length) := by
  rcases chgT_inv h _ (Nat.le_refl _) with ⟨_, h2⟩ | ⟨k, h1, h2, h3, h4, h5⟩
  · obtain ⟨l, g1, g2, g3⟩ := some_good h
    obtain ⟨m, m1, m2⟩ := mask_inc g1
    have h6 := h2 m m1 (by unfold goodK; rw [m2]; exact g2)
    rw [popc_bits m1, m2] at h6
    omega
  · refine ⟨bitsL (b.lines.length * 3 + 1) k, ⟨bitsL_inc k _, h2, fun l g1 g2 => ?_⟩, by rw [h4, marksB_bits]⟩
    obtain ⟨m, m1, m2⟩ := mask_inc g1
    have h6 := h5 m m1 (by unfold goodK; rw [m2]; exact g2)
    rw [popc_bits h1, popc_bits m1, m2] at h6
    exact h6
/-! ### the search -/
noncomputable def scanF (f : Nat → Option (List Nat)) : Nat → Nat → Option (List Nat)
  | 0, _ => none
  | d + 1, i => match f i with
    | some l => some (i :: l)
    | none => scanF f d (i + 1)
/-- The first list of so many places, from one on. -/
noncomputable def fnd (N : Nat) : Nat → Nat → Bl → Option (List Nat)
  | 0, _, b => if isPos b then some [] else none
  | m + 1, o, b => scanF (fun i => fnd N m (i + 1) (setN b i (-1))) (N - o - m) o
theorem scan_spec {f : Nat → Option (List Nat)} {Q : Nat → List Nat → Prop} (hs : ∀ i l, f i = some l → Q i l ∧ ∀ l', Q i l' → lexL l l') (hn : ∀ i, f i = none → ∀ l', ¬ Q i l') : ∀ d i, (∀ l, scanF f d i = some l → ∃ j t, l = j :: t ∧ i ≤ j ∧ j < i + d ∧ Q j t ∧ ∀ j' t', i ≤ j' → j' < i + d → Q j' t' → lexL l (j' :: t')) ∧ (scanF f d i = none → ∀ j' t', i ≤ j' → j' < i + d → ¬ Q j' t')
  | 0, i => ⟨fun l h => by simp [scanF] at h, fun _ j' t' h1 h2 => by omega⟩
  | d + 1, i => by
    obtain ⟨ih1, ih2⟩ := scan_spec hs hn d (i + 1)
    unfold scanF
    cases hf : f i with
    | some t =>
      obtain ⟨q1, q2⟩ := hs i t hf
      refine ⟨fun l hl => ?_, fun hl => by simp at hl⟩
      have : l = i :: t := by simpa using hl.symm
      subst this
      refine ⟨i, t, rfl, Nat.le_refl _, by omega, q1, fun j' t' h1 h2 hq => ?_⟩
      by_cases c : j' = i
      · subst c; exact .inr ⟨rfl, q2 t' hq⟩
      · exact .inl (by omega)
    | none =>
      have q := hn i hf
      refine ⟨fun l hl => ?_, fun hl j' t' h1 h2 hq => ?_⟩
      · obtain ⟨j, t, e, h1, h2, h3, h4⟩ := ih1 l hl
        refine ⟨j, t, e, by omega, by omega, h3, fun j' t' g1 g2 hq => ?_⟩
        by_cases c : j' = i
        · subst c; exact absurd hq (q t')
        · exact h4 j' t' (by omega) (by omega) hq
      · by_cases c : j' = i
        · subst c; exact q t' hq
        · exact ih2 hl j' t' (by omega) (by omega) hq
theorem inc_len : ∀ {l : List Nat} {o N : Nat}, Inc o N l → l.length ≤ N - o
  | [], _, _, _ => by simp
  | i :: l, o, N, ⟨h1, h2, h3⟩ => by
    have := inc_len h3
    simp only [List.length_cons]
    omega
theorem fnd_spec (N : Nat) : ∀ m o b, (∀ l, fnd N m o b = some l → (Inc o N l ∧ l.length = m ∧ posP (rubL b l)) ∧ ∀ l', Inc o N l' ∧ l'.length = m ∧ posP (rubL b l') → lexL l l') ∧ (fnd N m o b = none → ∀ l', ¬ (Inc o N l' ∧ l'.length = m ∧ posP (rubL b l')))
  | 0, o, b => by
    unfold fnd
    cases hp : isPos b with
    | true =>
      refine ⟨fun l hl => ?_, fun hl => by simp at hl⟩
      have : l = [] := by simpa using hl.symm
      subst this
      exact ⟨⟨trivial, rfl, isPos_iff.1 hp⟩, fun _ _ => trivial⟩
    | false =>
      refine ⟨fun l hl => by simp at hl, fun _ l' ⟨_, h1, h2⟩ => ?_⟩
      obtain rfl := List.length_eq_zero_iff.1 h1
      have h3 : isPos b = true := isPos_iff.2 h2
      rw [hp] at h3
      cases h3
  | m + 1, o, b => by
    obtain ⟨s1, s2⟩ := scan_spec (f := fun i => fnd N m (i + 1) (setN b i (-1))) (Q := fun i l => Inc (i + 1) N l ∧ l.length = m ∧ posP (rubL (setN b i (-1)) l)) (fun i l h => (fnd_spec N m (i + 1) (setN b i (-1))).1 l h) (fun i h => (fnd_spec N m (i + 1) (setN b i (-1))).2 h) (N - o - m) o
    have tr : ∀ l', Inc o N l' ∧ l'.length = m + 1 ∧ posP (rubL b l') → ∃ j t, l' = j :: t ∧ o ≤ j ∧ j < o + (N - o - m) ∧ (Inc (j + 1) N t ∧ t.length = m ∧ posP (rubL (setN b j (-1)) t)) := fun l' ⟨h1, h2, h3⟩ => by
      cases l' with
      | nil => simp at h2
      | cons j t =>
        obtain ⟨g1, g2, g3⟩ := h1
        have := inc_len g3
        have hlt : t.length = m := by simpa using h2
        exact ⟨j, t, rfl, g1, by omega, g3, hlt, h3⟩
    unfold fnd
    refine ⟨fun l hl => ?_, fun hl l' hl' => ?_⟩
    · obtain ⟨j, t, rfl, h1, h2, ⟨h3, h4, h5⟩, h6⟩ := s1 l hl
      refine ⟨⟨⟨h1, by omega, h3⟩, by simp [h4], h5⟩, fun l' hl' => ?_⟩
      obtain ⟨j', t', rfl, g1, g2, g3⟩ := tr l' hl'
      exact h6 j' t' g1 g2 g3
    · obtain ⟨j', t', rfl, g1, g2, g3⟩ := tr l' hl'
      exact s2 hl j' t' g1 g2 g3
/-- The search by size finds the least list. -/
theorem fnd_best {b : Bl} {m : Nat} {l : List Nat} (h1 : ∀ k, k < m → fnd (b.lines.length * 3 + 1) k 0 b = none) (h2 : fnd (b.lines.length * 3 + 1) m 0 b = some l) : Best b l := by
  obtain ⟨⟨g1, g2, g3⟩, g4⟩ := (fnd_spec _ m 0 b).1 l h2
  refine ⟨g1, g3, fun t ht hp => ?_⟩
  by_cases c : t.length < m
  · exact absurd ⟨ht, rfl, hp⟩ ((fnd_spec _ t.length 0 b).2 (h1 _ c) t)
  · by_cases c2 : t.length = m
    · exact .inr ⟨by omega, g4 t ⟨ht, c2, hp⟩⟩
    · exact .inl (by omega)
end Go.Proofs.Ytpnmbpbcgifkeaa.Ab.T12
