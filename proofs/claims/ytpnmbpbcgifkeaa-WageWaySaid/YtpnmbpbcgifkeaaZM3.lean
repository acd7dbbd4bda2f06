/- The fewest numbers: Change's answer and the search's are the same. -/
import Derived.Test.YtpnmbpbcgifkeaaZM2
namespace Go.Proofs.Ytpnmbpbcgifkeaa.Ab.T12
open Go Go.RowKit
set_option linter.unusedVariables false
set_option linter.unusedSimpArgs false
set_option maxRecDepth 100000
/-- The least list of places without which a bill can be right. -/
def Best (b : Bl) (l : List Nat) : Prop := Inc 0 (b.lines.length * 3 + 1) l ∧ posP (rubL b l) ∧ ∀ m, Inc 0 (b.lines.length * 3 + 1) m → posP (rubL b m) → l.length < m.length ∨ (l.length = m.length ∧ lexL l m)
def goodK (b : Bl) (k : Nat) : Prop := posP (rubL b (bitsL (b.lines.length * 3 + 1) k))
theorem marksB_len (b : Bl) (k : Nat) : (marksB b k).length = (bitsL (b.lines.length * 3 + 1) k).length := by rw [marksB_bits, List.length_map]
theorem popc_bits {b : Bl} {k : Nat} (h : k < 2 ^ (b.lines.length * 3 + 1)) : popc k = (bitsL (b.lines.length * 3 + 1) k).length := popc_count _ k h
theorem chgT_inv {b : Bl} (h : Rd b) : ∀ i, i ≤ 2 ^ (b.lines.length * 3 + 1) →
    (chgT b (wrongN b b.lines.length) i = [] ∧ ∀ k, k < i → goodK b k → wrongN b b.lines.length + 1 < popc k) ∨
    (∃ k, k < i ∧ goodK b k ∧ popc k ≤ wrongN b b.lines.length + 1 ∧ chgT b (wrongN b b.lines.length) i = marksB b k ∧ ∀ m, m < i → goodK b m → popc k < popc m ∨ (popc k = popc m ∧ lexL (bitsL (b.lines.length * 3 + 1) k) (bitsL (b.lines.length * 3 + 1) m)))
  | 0, _ => .inl ⟨rfl, fun k hk => by omega⟩
  | i + 1, hi => by
    have ih := chgT_inv h i (by omega)
    have hin : ∀ k, Inc 0 (b.lines.length * 3 + 1) (bitsL (b.lines.length * 3 + 1) k) := fun k => bitsL_inc k _
    have hle : ∀ k, ∀ j ∈ bitsL (b.lines.length * 3 + 1) k, j ≤ b.lines.length * 3 := fun k j hj => by have := ((hin k).mem j hj).2; omega
    have hpi : popc i = (bitsL (b.lines.length * 3 + 1) i).length := popc_bits (by omega)
    have hstep : chgT b (wrongN b b.lines.length) (i + 1) = stepC b (wrongN b b.lines.length) (chgT b (wrongN b b.lines.length) i) i := rfl
    by_cases hg : goodK b i
    · have hw : wrongN b b.lines.length ≤ popc i := by rw [hpi]; exact wrong_few h (hin i) hg
      have hpos : isPos (lessB b i) = true := isPos_iff.2 (by rw [lessB_bits]; exact hg)
      have hho : ¬ (lessB b i).lines.any hopeless = true := fun hc => any_hopeless hc (isPos_iff.1 hpos)
      by_cases c1 : popc i > wrongN b b.lines.length + 1
      · have e : chgT b (wrongN b b.lines.length) (i + 1) = chgT b (wrongN b b.lines.length) i := by rw [hstep]; unfold stepC; rw [if_pos (.inr (.inl c1))]
        rw [e]
        rcases ih with ⟨h1, h2⟩ | ⟨k, h1, h2, h3, h4, h5⟩
        · exact .inl ⟨h1, fun k hk hgk => by
            by_cases c : k = i
            · subst c; exact c1
            · exact h2 k (by omega) hgk⟩
        · exact .inr ⟨k, by omega, h2, h3, h4, fun m hm hgm => by
            by_cases c : m = i
            · subst c; exact .inl (by omega)
            · exact h5 m (by omega) hgm⟩
      · rcases ih with ⟨h1, h2⟩ | ⟨k, h1, h2, h3, h4, h5⟩
        · have e : chgT b (wrongN b b.lines.length) (i + 1) = marksB b i := by
            rw [hstep]
            unfold stepC
            rw [if_neg (by rw [h1]; simp; omega), if_neg]
            rintro (⟨hc, _⟩ | hc | hc)
            · exact hc h1
            · exact hho hc
            · rw [hpos] at hc; cases hc
          refine .inr ⟨i, by omega, hg, by omega, e, fun m hm hgm => ?_⟩
          by_cases c : m = i
          · subst c; exact .inr ⟨rfl, lexL_refl _⟩
          · have := h2 m (by omega) hgm
            exact .inl (by omega)
        · have hpk : popc k = (bitsL (b.lines.length * 3 + 1) k).length := popc_bits (by omega)
          have hbl : (chgT b (wrongN b b.lines.length) i).length = popc k := by rw [h4, marksB_len, hpk]
          have hbn : chgT b (wrongN b b.lines.length) i ≠ [] := fun hc => by
            rw [hc] at hbl
            have := List.length_pos_iff.2 (good_some h h2)
            simp at hbl
            omega
          by_cases c2 : popc i > popc k
          · have e : chgT b (wrongN b b.lines.length) (i + 1) = chgT b (wrongN b b.lines.length) i := by rw [hstep]; unfold stepC; rw [if_pos (.inr (.inr ⟨hbn, by omega⟩))]
            rw [e]
            exact .inr ⟨k, by omega, h2, h3, h4, fun m hm hgm => by
              by_cases c : m = i
              · subst c; exact .inl c2
              · exact h5 m (by omega) hgm⟩
          · have n1 : ¬ (popc i < wrongN b b.lines.length ∨ popc i > wrongN b b.lines.length + 1 ∨ (chgT b (wrongN b b.lines.length) i ≠ [] ∧ popc i > (chgT b (wrongN b b.lines.length) i).length)) := by
              rintro (hc | hc | hc)
              · omega
              · omega
              · have := hc.2; omega
            by_cases c3 : popc i = popc k ∧ cmpL (marksB b i) (marksB b k) > 0
            · have e : chgT b (wrongN b b.lines.length) (i + 1) = chgT b (wrongN b b.lines.length) i := by
                rw [hstep]
                unfold stepC
                rw [if_neg n1, if_pos (.inl ⟨hbn, by omega, by rw [h4]; exact c3.2⟩)]
              have hlen : (bitsL (b.lines.length * 3 + 1) i).length = (bitsL (b.lines.length * 3 + 1) k).length := by omega
              have hnl : ¬ lexL (bitsL (b.lines.length * 3 + 1) i) (bitsL (b.lines.length * 3 + 1) k) := (cmpL_lex hlen (hle i) (hle k)).1 (by rw [← marksB_bits, ← marksB_bits]; exact c3.2)
              have hl2 := (lexL_total _ _ hlen).resolve_left hnl
              rw [e]
              exact .inr ⟨k, by omega, h2, h3, h4, fun m hm hgm => by
                by_cases c : m = i
                · subst c; exact .inr ⟨by omega, hl2⟩
                · exact h5 m (by omega) hgm⟩
            · have e : chgT b (wrongN b b.lines.length) (i + 1) = marksB b i := by
                rw [hstep]
                unfold stepC
                rw [if_neg n1, if_neg]
                rintro (⟨_, hc1, hc2⟩ | hc | hc)
                · exact c3 ⟨by omega, by rw [← h4]; exact hc2⟩
                · exact hho hc
                · rw [hpos] at hc; cases hc
              refine .inr ⟨i, by omega, hg, by omega, e, fun m hm hgm => ?_⟩
              by_cases c : m = i
              · subst c; exact .inr ⟨rfl, lexL_refl _⟩
              · have h6 := h5 m (by omega) hgm
                by_cases c4 : popc i < popc k
                · rcases h6 with h6 | h6
                  · exact .inl (by omega)
                  · exact .inl (by omega)
                · have hlen : (bitsL (b.lines.length * 3 + 1) i).length = (bitsL (b.lines.length * 3 + 1) k).length := by omega
                  have hl1 : lexL (bitsL (b.lines.length * 3 + 1) i) (bitsL (b.lines.length * 3 + 1) k) := Classical.byContradiction fun hn => c3 ⟨by omega, by rw [marksB_bits, marksB_bits]; exact (cmpL_lex hlen (hle i) (hle k)).2 hn⟩
                  rcases h6 with h6 | h6
                  · exact .inl (by omega)
                  · exact .inr ⟨by omega, lexL_trans hl1 h6.2⟩
    · have hnp : isPos (lessB b i) = false := by
        cases hc : isPos (lessB b i) with
        | false => rfl
        | true => exact absurd (by have := isPos_iff.1 hc; rw [lessB_bits] at this; exact this) hg
      have e : chgT b (wrongN b b.lines.length) (i + 1) = chgT b (wrongN b b.lines.length) i := by
        rw [hstep]
        unfold stepC
        split
        · rfl
        · rw [if_pos (.inr (.inr hnp))]
      rw [e]
      rcases ih with ⟨h1, h2⟩ | ⟨k, h1, h2, h3, h4, h5⟩
      · exact .inl ⟨h1, fun k hk hgk => by
          by_cases c : k = i
          · subst c; exact absurd hgk hg
          · exact h2 k (by omega) hgk⟩
      · exact .inr ⟨k, by omega, h2, h3, h4, fun m hm hgm => by
          by_cases c : m = i
          · subst c; exact absurd hgm hg
          · exact h5 m (by omega) hgm⟩
theorem chgT_best {b : Bl} (h : Rd b) : ∃ l, Best b l ∧ chgT b (wrongN b b.lines.length) (2 ^ (b.lines.length * 3 + 1)) = l.map (markAt b.lines.length) := by
  rcases chgT_inv h _ (Nat.le_refl _) with ⟨_, h2⟩ | ⟨k, h1, h2, h3, h4, h5⟩
  · obtain ⟨l, g1, g2, g3⟩ := some_good h
    obtain ⟨m, m1, m2⟩ := mask_inc g1
    have h6 := h2 m m1 (by unfold goodK; rw [m2]; exact g2)
    rw [popc_bits m1, m2] at h6
    omega
  · refine ⟨bitsL (b.lines.length * 3 + 1) k, ⟨bitsL_inc k _, h2, fun l g1 g2 => ?_⟩, by rw [h4, marksB_bits]⟩
    obtain ⟨m, m1, m2⟩ := mask_inc g1
    have h6 := h5 m m1 (by unfold goodK; rw [m2]; exact g2)
    rw [popc_bits h1, popc_bits m1, m2] at h6
    exact h6
/-! ### the search -/
end Go.Proofs.Ytpnmbpbcgifkeaa.Ab.T12
