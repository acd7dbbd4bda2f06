/- What an edge can be: the heights of all truths. Plain. -/
import Derived.Test.YtafpicjnccffgaaZR7
namespace Go.Proofs.Ytafpicjnccffgaa.Ab.T01
open Go Go.RowKit
set_option linter.unusedSimpArgs false
set_option linter.unusedVariables false
/-- An edge: in each span a height, neighbours not farther apart than the bend. -/
structure Path (L : List Sp) (bend : Int) (p : Nat → Int) : Prop where
  mem : ∀ j, j < L.length → inS (nth L j) (p j)
  near : ∀ j, j + 1 < L.length → p j - bend ≤ p (j + 1) ∧ p (j + 1) ≤ p j + bend
theorem reach_path {L : List Sp} {bend : Int} (hok : Okl L) : ∀ {i : Nat} {h : Int}, i < L.length → (reachB L bend i h = true ↔ ∃ p : Nat → Int, (∀ j, j ≤ i → inS (nth L j) (p j)) ∧ (∀ j, j < i → p j - bend ≤ p (j + 1) ∧ p (j + 1) ≤ p j + bend) ∧ p i = h)
  | 0, h, hi => by
    constructor
    · intro hr
      refine ⟨fun _ => h, fun j hj => ?_, fun j hj => by omega, rfl⟩
      rw [show j = 0 by omega]
      exact reach_mem hr
    · rintro ⟨p, h1, _, rfl⟩
      have := h1 0 (Nat.le_refl _)
      unfold inS at this
      rw [reachB]
      simp [this]
  | i + 1, h, hi => by
    rw [reach_succ]
    constructor
    · rintro ⟨h1, k, hk, h2, h3⟩
      obtain ⟨p, g1, g2, g3⟩ := (reach_path hok (i := i) (h := k) (by omega)).1 h3
      refine ⟨fun j => if j = i + 1 then h else p j, fun j hj => ?_, fun j hj => ?_, by simp⟩
      · by_cases e : j = i + 1
        · subst e; simpa using h1
        · simp only [if_neg e]; exact g1 j (by omega)
      · simp only [if_neg (show ¬ j = i + 1 by omega)]
        by_cases e : j = i
        · subst e; simp only [if_pos]; omega
        · simp only [if_neg (show ¬ j + 1 = i + 1 by omega)]; exact g2 j (by omega)
    · rintro ⟨p, g1, g2, rfl⟩
      have hm := g1 i (by omega)
      have hb := hok _ (nth_mem (l := L) (i := i) (by omega))
      have hn := g2 i (by omega)
      unfold inS at hm
      refine ⟨g1 (i + 1) (Nat.le_refl _), (p i).toNat, by omega, by omega, ?_⟩
      rw [show (((p i).toNat : Nat) : Int) = p i by omega]
      exact (reach_path hok (i := i) (h := p i) (by omega)).2 ⟨p, fun j hj => g1 j (by omega), fun j hj => g2 j (by omega), rfl⟩
theorem okl_rev {L : List Sp} (hok : Okl L) : Okl L.reverse := fun s hs => hok s (List.mem_reverse.1 hs)
/-- A height of an edge: it can be reached from either side. -/
theorem both_path {L : List Sp} {bend : Int} (hok : Okl L) {i : Nat} {h : Int} (hi : i < L.length) : (reachB L bend i h = true ∧ reachB L.reverse bend (L.length - 1 - i) h = true) ↔ ∃ p, Path L bend p ∧ p i = h := by
  have hl : L.reverse.length = L.length := List.length_reverse
  rw [reach_path hok hi, reach_path (okl_rev hok) (by omega)]
  constructor
  · rintro ⟨⟨p, a1, a2, a3⟩, q, b1, b2, b3⟩
    refine ⟨fun j => if j ≤ i then p j else q (L.length - 1 - j), ⟨fun j hj => ?_, fun j hj => ?_⟩, by simp only [if_pos (Nat.le_refl i)]; exact a3⟩
    · by_cases c : j ≤ i
      · simp only [if_pos c]; exact a1 j c
      · simp only [if_neg c]
        have := b1 (L.length - 1 - j) (by omega)
        rw [rev_nth (by omega), show L.length - 1 - (L.length - 1 - j) = j by omega] at this
        exact this
    · by_cases c : j + 1 ≤ i
      · simp only [if_pos c, if_pos (show j ≤ i by omega)]; exact a2 j (by omega)
      · by_cases c2 : j ≤ i
        · have e : j = i := by omega
          subst e
          simp only [if_pos c2, if_neg c]
          have := b2 (L.length - 1 - (j + 1)) (by omega)
          rw [show L.length - 1 - (j + 1) + 1 = L.length - 1 - j by omega, b3, ← a3] at this
          omega
        · simp only [if_neg c, if_neg c2]
          have := b2 (L.length - 1 - (j + 1)) (by omega)
          rw [show L.length - 1 - (j + 1) + 1 = L.length - 1 - j by omega] at this
          omega
  · rintro ⟨p, hp, rfl⟩
    refine ⟨⟨p, fun j hj => hp.mem j (by omega), fun j hj => hp.near j (by omega), rfl⟩, fun j => p (L.length - 1 - j), fun j hj => ?_, fun j hj => ?_, ?_⟩
    · rw [rev_nth (by omega)]; exact hp.mem _ (by omega)
    · have := hp.near (L.length - 1 - (j + 1)) (by omega)
      rw [show L.length - 1 - (j + 1) + 1 = L.length - 1 - j by omega] at this
      show p (L.length - 1 - j) - bend ≤ p (L.length - 1 - (j + 1)) ∧ p (L.length - 1 - (j + 1)) ≤ p (L.length - 1 - j) + bend
      omega
    · show p (L.length - 1 - (L.length - 1 - i)) = p i
      rw [show L.length - 1 - (L.length - 1 - i) = i by omega]
theorem scanB_true {g : Int → Bool} : ∀ {n : Nat}, (scanB g n).1 = true → ∃ h : Nat, h < n ∧ g h = true
  | 0, h => by simp [scanB] at h
  | n + 1, h => by
    rw [scanB] at h
    by_cases hg : g n = true
    · exact ⟨n, by omega, hg⟩
    · rw [if_neg hg] at h
      obtain ⟨k, h1, h2⟩ := scanB_true h
      exact ⟨k, by omega, h2⟩
theorem path_bound {L : List Sp} {bend : Int} {p : Nat → Int} (hok : Okl L) (hp : Path L bend p) {i : Nat} (hi : i < L.length) : 0 ≤ p i ∧ p i ≤ 300 := by
  have h1 := hp.mem i hi
  have h2 := hok _ (nth_mem hi)
  unfold inS at h1
  omega
/-- If there is an edge the spans are those of all edges. -/
theorem bent_some {L : List Sp} {bend : Int} (hok : Okl L) (hb : 0 ≤ bend) (hp : ∃ p, Path L bend p) : ∃ R, bentS bend L = some R ∧ R.length = L.length ∧ Okl R ∧ ∀ i, i < L.length → ∀ h, inS (nth R i) h ↔ ∃ p, Path L bend p ∧ p i = h := by
  obtain ⟨p, hp⟩ := hp
  cases hR : bentS bend L with
  | none =>
    exfalso
    by_cases hl : L.length = 0
    · have : L = [] := List.eq_nil_of_length_eq_zero hl
      subst this
      simp [bentS, passOk, pass, pIter] at hR
    have he := curveR_eq hok hb
    rw [hR, Option.getD_none] at he
    have hg : ∀ i, i < L.length → (scanB (bothB L bend i) 301).1 = true := fun i hi => by
      have h1 := (both_path (bend := bend) hok (h := p i) hi).2 ⟨p, hp, rfl⟩
      have hbd := path_bound hok hp hi
      cases hs : (scanB (bothB L bend i) 301).1 with
      | true => rfl
      | false =>
        have hnone : ∀ (n k : Nat), k < n → bothB L bend i k = true → (scanB (bothB L bend i) n).1 = true := fun n => by
          induction n with
          | zero => intro k hk; omega
          | succ n ih =>
            intro k hk hkb
            rw [scanB]
            by_cases e : k = n
            · subst e; rw [if_pos hkb]
            · split
              · rfl
              · exact ih k (by omega) hkb
        have := hnone 301 (p i).toNat (by omega) (by
          unfold bothB
          rw [show (((p i).toNat : Nat) : Int) = p i by omega, h1.1, h1.2]
          rfl)
        rw [hs] at this
        exact this
    rw [curveR_good hg] at he
    have := congrArg List.length he
    rw [List.length_map, List.length_range] at this
    exact hl this
  | some R =>
    have hRok := bentS_ok hok hR
    refine ⟨R, rfl, hRok.2, hRok.1, fun i hi h => ?_⟩
    have hR2 : passOk bend L = true ∧ passOk bend (pass bend L) = true ∧ R = pass bend (pass bend L) := by
      unfold bentS at hR
      split at hR
      · rename_i hc
        simp only [Bool.and_eq_true] at hc
        cases hR
        exact ⟨hc.1, hc.2, rfl⟩
      · cases hR
    obtain ⟨p1, p2, rfl⟩ := hR2
    have hok2 := (pass_ok hok p1).1
    have hG : ∀ i, i < L.length → (fwd bend (pass bend L) i).1 ≤ (fwd bend (pass bend L) i).2 := fun i hi => by
      cases i with
      | zero => have := hok2 _ (nth_mem (l := pass bend L) (i := 0) (by rw [pass_length]; exact hi)); rw [fwd_zero]; omega
      | succ i => exact passOk_iff.1 p2 i (by rw [pass_length]; exact hi)
    rw [pass_nth (by rw [pass_length]; exact hi), pass_length, ← both_path hok hi]
    have := back_fwd hok hb p1 (j := L.length - 1 - i) (by omega) (fun k hk => hG k (by omega)) h
    rw [show L.length - 1 - (L.length - 1 - i) = i by omega] at this
    exact this.symm
theorem bent_none {L : List Sp} {bend : Int} (hok : Okl L) (hb : 0 ≤ bend) (hl : 0 < L.length) : (∃ R, bentS bend L = some R) → ∃ p, Path L bend p := by
  rintro ⟨R, hR⟩
  have he := curveR_eq hok hb
  rw [hR, Option.getD_some] at he
  have hlen := (bentS_ok hok hR).2
  by_cases hg : ((List.range L.length).all fun i => (scanB (bothB L bend i) 301).1) = true
  · have h0 := List.all_eq_true.1 hg 0 (List.mem_range.2 hl)
    obtain ⟨h, _, hh⟩ := scanB_true h0
    unfold bothB at hh
    simp only [Bool.and_eq_true] at hh
    obtain ⟨p, hp, _⟩ := (both_path hok hl).1 hh
    exact ⟨p, hp⟩
  · unfold curveR at he
    rw [if_neg hg] at he
    rw [← he] at hlen
    simp at hlen
    omega
/-- Spans with the same heights are the same. -/
theorem spans_eq {A B : List Sp} (ha : Okl A) (hb : Okl B) (hl : A.length = B.length) (h : ∀ i, i < A.length → ∀ x, inS (nth A i) x ↔ inS (nth B i) x) : A = B := by
  refine list_ext hl fun i hi => ?_
  have h1 := ha _ (nth_mem hi)
  have h2 := hb _ (nth_mem (l := B) (i := i) (by omega))
  have a1 := (h i hi (nth A i).1).1 ⟨by omega, by omega⟩
  have a2 := (h i hi (nth A i).2).1 ⟨by omega, by omega⟩
  have b1 := (h i hi (nth B i).1).2 ⟨by omega, by omega⟩
  have b2 := (h i hi (nth B i).2).2 ⟨by omega, by omega⟩
  unfold inS at a1 a2 b1 b2
  exact Prod.ext (by omega) (by omega)
theorem path_set {L : List Sp} {bend : Int} {p : Nat → Int} {i : Nat} {n : Int} (hi : i < L.length) (hn : inS (nth L i) n) : Path (L.set i (n, n)) bend p ↔ Path L bend p ∧ p i = n := by
  have hl : (L.set i (n, n)).length = L.length := List.length_set
  constructor
  · intro hp
    have e : p i = n := by
      have := hp.mem i (by omega)
      rw [nth_set _ _ _ _ hi, if_pos rfl] at this
      unfold inS at this
      simp only at this
      omega
    refine ⟨⟨fun j hj => ?_, fun j hj => hp.near j (by omega)⟩, e⟩
    by_cases c : i = j
    · subst c; rw [e]; exact hn
    · have := hp.mem j (by omega)
      rw [nth_set _ _ _ _ hj, if_neg c] at this
      exact this
  · rintro ⟨hp, rfl⟩
    refine ⟨fun j hj => ?_, fun j hj => hp.near j (by omega)⟩
    rw [nth_set _ _ _ _ (by omega)]
    by_cases c : i = j
    · subst c; rw [if_pos rfl]; exact ⟨Int.le_refl _, Int.le_refl _⟩
    · rw [if_neg c]; exact hp.mem j (by omega)
/-- The spans of all edges hold the same edges. -/
theorem path_bent {L R : List Sp} {bend : Int} {p : Nat → Int} (hok : Okl L) (hb : 0 ≤ bend) (hR : bentS bend L = some R) : Path R bend p ↔ Path L bend p := by
  by_cases hl : L.length = 0
  · have hlen := (bentS_ok hok hR).2
    constructor
    · exact fun h => ⟨fun j hj => by omega, fun j hj => by omega⟩
    · exact fun h => ⟨fun j hj => by omega, fun j hj => by omega⟩
  obtain ⟨R', h1, h2, h3, h4⟩ := bent_some hok hb (bent_none hok hb (by omega) ⟨R, hR⟩)
  rw [hR] at h1
  cases h1
  constructor
  · intro hp
    refine ⟨fun j hj => ?_, fun j hj => hp.near j (by omega)⟩
    obtain ⟨q, hq, e⟩ := (h4 j hj (p j)).1 (hp.mem j (by omega))
    rw [← e]
    exact hq.mem j hj
  · intro hp
    exact ⟨fun j hj => (h4 j (by omega) (p j)).2 ⟨p, hp, rfl⟩, fun j hj => hp.near j (by omega)⟩
theorem okl_set {L : List Sp} (hok : Okl L) {i : Nat} {n : Int} (hi : i < L.length) (hn : inS (nth L i) n) : Okl (L.set i (n, n)) := by
  have := hok _ (nth_mem hi)
  unfold inS at hn
  exact hok.set (by simp only; omega)
/-- A column sounded: in the spans, or in what the edge can be, it is the same. -/
theorem bent_sound {L R : List Sp} {bend : Int} {i : Nat} {n : Int} (hok : Okl L) (hb : 0 ≤ bend) (hR : bentS bend L = some R) (hi : i < L.length) (hn : inS (nth R i) n) : ∃ S, bentS bend (L.set i (n, n)) = some S ∧ bentS bend (R.set i (n, n)) = some S := by
  obtain ⟨R', h1, h2, h3, h4⟩ := bent_some hok hb (bent_none hok hb (by omega) ⟨R, hR⟩)
  rw [hR] at h1
  cases h1
  obtain ⟨p, hp, hpn⟩ := (h4 i hi n).1 hn
  have hnL : inS (nth L i) n := by rw [← hpn]; exact hp.mem i hi
  have e1 : ∀ q, Path (L.set i (n, n)) bend q ↔ Path (R.set i (n, n)) bend q := fun q => by
    rw [path_set hi hnL, path_set (by omega) hn, path_bent hok hb hR]
  obtain ⟨S, s1, s2, s3, s4⟩ := bent_some (okl_set hok hi hnL) hb ⟨p, (path_set hi hnL).2 ⟨hp, hpn⟩⟩
  obtain ⟨T, t1, t2, t3, t4⟩ := bent_some (okl_set h3 (by omega) hn) hb ⟨p, (e1 p).1 ((path_set hi hnL).2 ⟨hp, hpn⟩)⟩
  have : S = T := spans_eq s3 t3 (by rw [s2, t2, List.length_set, List.length_set, h2]) fun j hj x => by
    rw [s2] at hj
    rw [s4 j hj, t4 j (by rw [List.length_set] at hj ⊢; omega)]
    constructor
    · rintro ⟨q, h5, h6⟩; exact ⟨q, (e1 q).1 h5, h6⟩
    · rintro ⟨q, h5, h6⟩; exact ⟨q, (e1 q).2 h5, h6⟩
  subst this
  exact ⟨S, s1, t1⟩
end Go.Proofs.Ytafpicjnccffgaa.Ab.T01
