/- Sticks one after another: no list of sound places is longer than the greatest layout, and the layout is such a list. Plain. -/
import Derived.Test.YtdgeocjchnandaaZN4
import Derived.Test.YtdgeocjchnandaaZP0
namespace Go.Proofs.Ytdgeocjchnandaa.Ab.T01
open Go Go.RowKit
set_option linter.unusedSimpArgs false
set_option linter.unusedVariables false
/-- The second stick is cut after the first one. -/
def After (s : Sw) (p q : Int × Int) : Prop := (p.1 = q.1 ∧ p.2 + (s.wide + s.kerf) ≤ q.2) ∨ p.1 + (s.long + s.across) ≤ q.1
theorem mny_ge {g : Int → Bool} {st y z : Nat} (hs : 1 ≤ st) (h : y ≤ z) (hz : z ≤ 300) (hg : g z = true) : 1 + mny g st (z + st) ≤ mny g st y := by
  have := mny_mono (g := g) hs y (z - y)
  rw [show y + (z - y) = z by omega, mny_fine hs hz hg] at this
  exact this
theorem chain_most {v : Vw} {s : Sw} (hv : v.Ok) (hs : sawOk s = true) {P : List (Int × Int)} (hP : P.Pairwise (After s)) (hB : ∀ p ∈ P, OnBlade v s p) (hS : ∀ p ∈ P, soundI v s p = true) : P.length ≤ (mostI v s).length := by
  have hs0 := hs
  unfold sawOk at hs0
  simp only [Bool.and_eq_true] at hs0
  have s1 := betw1 hs0.1.1
  have s2 := betw1 hs0.1.2
  have s3 := betw2 hs0.2
  have hst : 1 ≤ stepN s := by unfold stepN; omega
  have hsN : ((stepN s : Nat) : Int) = s.long + s.across := by unfold stepN; omega
  have hll : 1 ≤ s.long.toNat := by omega
  have t1 : 1 ≤ stN s := by unfold stN; omega
  have tN : ((stN s : Nat) : Int) = s.wide + s.kerf := by unfold stN; omega
  unfold mostI
  rw [mostG_len hst hll _ 0 (Nat.le_refl _)]
  have key : ∀ P : List (Int × Int), P.Pairwise (After s) → (∀ p ∈ P, OnBlade v s p) → (∀ p ∈ P, soundI v s p = true) →
      (∀ x : Nat, (∀ p ∈ P, (x : Int) ≤ p.1) → P.length ≤ bst (fun x => (blockI v s x).length) v.bottom.length s.long.toNat (stepN s) x) ∧
      (∀ x y : Nat, (∀ p ∈ P, (p.1 = (x : Int) ∧ (y : Int) ≤ p.2) ∨ (x : Int) + (stepN s : Nat) ≤ p.1) → P.length ≤ mny (refSound v s.long.toNat s.wide x) (stN s) y + bst (fun x => (blockI v s x).length) v.bottom.length s.long.toNat (stepN s) (x + stepN s)) := by
    intro P
    induction P with
    | nil => intro _ _ _; exact ⟨fun x _ => by simp, fun x y _ => by simp⟩
    | cons p P ih =>
      intro hP hB hS
      rw [List.pairwise_cons] at hP
      obtain ⟨hp, hP⟩ := hP
      obtain ⟨iA, iB⟩ := ih hP (fun q hq => hB q (List.mem_cons_of_mem _ hq)) (fun q hq => hS q (List.mem_cons_of_mem _ hq))
      have b := hB p List.mem_cons_self
      have sd := hS p List.mem_cons_self
      obtain ⟨X, Y⟩ := p
      obtain ⟨b1, b2, b3, b4⟩ := b
      simp only at b1 b2 b3 b4
      obtain ⟨x0, rfl⟩ : ∃ n : Nat, X = n := ⟨X.toNat, by omega⟩
      obtain ⟨y0, rfl⟩ : ∃ n : Nat, Y = n := ⟨Y.toNat, by omega⟩
      have sd : refSound v s.long.toNat s.wide x0 (y0 : Int) = true := sd
      have rest := iB x0 (y0 + stN s) fun q hq => by
        have := hp q hq
        unfold After at this
        simp only at this
        rcases this with h | h
        · left; exact ⟨h.1.symm, by omega⟩
        · right; omega
      have A : ∀ x : Nat, (∀ q ∈ ((x0 : Int), (y0 : Int)) :: P, (x : Int) ≤ q.1) → (((x0 : Int), (y0 : Int)) :: P).length ≤ bst (fun x => (blockI v s x).length) v.bottom.length s.long.toNat (stepN s) x := fun x hx => by
        have h0 := hx _ List.mem_cons_self
        simp only at h0
        have hm := bst_mono (f := fun x => (blockI v s x).length) (n := v.bottom.length) hst hll x (x0 - x)
        rw [show x + (x0 - x) = x0 by omega, bst_step hst hll (show x0 + s.long.toNat ≤ v.bottom.length by omega)] at hm
        have hb : (blockI v s x0).length = mny (refSound v s.long.toNat s.wide x0) (stN s) 0 := by
          rw [← block_law hv hs (x := x0) (by omega), grd_length t1 _ 0 (Nat.le_refl _)]
        have hg := mny_ge t1 (Nat.zero_le y0) (by omega) sd
        rw [List.length_cons]
        simp only [hb] at hm
        omega
      refine ⟨A, fun x y hxy => ?_⟩
      rcases hxy _ List.mem_cons_self with h | h
      · simp only at h
        obtain rfl : x0 = x := by omega
        have hg := mny_ge t1 (show y ≤ y0 by omega) (by omega) sd
        rw [List.length_cons]
        omega
      · have := A (x + stepN s) fun q hq => by
          rcases List.mem_cons.1 hq with rfl | hq
          · simp only at h ⊢; omega
          · have := hp q hq
            unfold After at this
            simp only at this h
            omega
        omega
  exact (key P hP hB hS).1 0 fun p hp => by have := (hB p hp).x0; omega
/-- A view at least as good: every spoil of the better one lies within one of the other. -/
structure Bet (v w : Vw) : Prop where
  len : w.bottom.length = v.bottom.length
  low : ∀ c, c < v.bottom.length → nth w.bottom c ≤ nth v.bottom c
  top : ∀ c, c < v.bottom.length → nth v.top c ≤ nth w.top c
  spoils : ∀ t ∈ w.spoils, ∃ u ∈ v.spoils, u.col.1 ≤ t.col.1 ∧ t.col.2 ≤ u.col.2 ∧ u.ht.1 ≤ t.ht.1 ∧ t.ht.2 ≤ u.ht.2
theorem sound_bet {v w : Vw} (hb : Bet v w) {s : Sw} {p : Int × Int} (hp : OnBlade v s p) (h : soundI v s p = true) : soundI w s p = true := by
  obtain ⟨b1, b2, b3, b4⟩ := hp
  unfold soundI refSound at h ⊢
  rw [List.all_eq_true] at h ⊢
  intro d hd
  have hd' : d < s.long.toNat := by simpa using hd
  have := h d hd
  have l := hb.low (p.1.toNat + d) (by omega)
  have t := hb.top (p.1.toNat + d) (by omega)
  unfold colOk at this ⊢
  simp only [Bool.and_eq_true, decide_eq_true_eq, List.all_eq_true] at this ⊢
  refine ⟨⟨by omega, by omega⟩, fun u hu => ?_⟩
  obtain ⟨u', h1, h2, h3, h4, h5⟩ := hb.spoils u hu
  have := this.2 u' h1
  simp only [betw, List.all_cons, List.all_nil, Bool.and_true, Bool.not_eq_true', Bool.and_eq_false_iff, decide_eq_false_iff_not] at this ⊢
  omega
theorem grd_pair {g : Int → Bool} {st : Nat} (hs : 1 ≤ st) : ∀ (r y : Nat), 301 - y ≤ r → (grd g st y).Pairwise (fun a b => a + (st : Int) ≤ b) ∧ ∀ z ∈ grd g st y, (y : Int) ≤ z ∧ z ≤ 300 ∧ g z = true
  | 0, y, h => by rw [grd_end (by omega)]; exact ⟨List.Pairwise.nil, fun z hz => by simp at hz⟩
  | r + 1, y, h => by
    by_cases hy : y ≤ 300
    · rw [grd_step hs hy]
      split
      · rename_i hg
        obtain ⟨i1, i2⟩ := grd_pair (g := g) hs r (y + st) (by omega)
        refine ⟨List.pairwise_cons.2 ⟨fun z hz => ?_, i1⟩, fun z hz => ?_⟩
        · have := (i2 z hz).1; omega
        · rcases List.mem_cons.1 hz with rfl | hz
          · exact ⟨by omega, by omega, hg⟩
          · have := i2 z hz; exact ⟨by omega, this.2⟩
      · obtain ⟨i1, i2⟩ := grd_pair (g := g) hs r (y + 1) (by omega)
        exact ⟨i1, fun z hz => by have := i2 z hz; exact ⟨by omega, this.2⟩⟩
    · rw [grd_end (by omega)]; exact ⟨List.Pairwise.nil, fun z hz => by simp at hz⟩
theorem col_pair {s : Sw} {l : List Int} {x : Int} {st : Nat} (h : l.Pairwise (fun a b => a + (st : Int) ≤ b)) (hst : (st : Int) = s.wide + s.kerf) : (l.map fun y => (x, y)).Pairwise (After s) := by
  rw [List.pairwise_map]
  exact h.imp fun {a b} hab => .inl ⟨rfl, by simp only; omega⟩
theorem most_chain {v : Vw} {s : Sw} (hv : v.Ok) (hs : sawOk s = true) : (mostI v s).Pairwise (After s) ∧ (∀ p ∈ mostI v s, OnBlade v s p) ∧ ∀ p ∈ mostI v s, soundI v s p = true := by
  have hs0 := hs
  unfold sawOk at hs0
  simp only [Bool.and_eq_true] at hs0
  have s1 := betw1 hs0.1.1
  have s2 := betw1 hs0.1.2
  have s3 := betw2 hs0.2
  have hst : 1 ≤ stepN s := by unfold stepN; omega
  have hsN : ((stepN s : Nat) : Int) = s.long + s.across := by unfold stepN; omega
  have hll : 1 ≤ s.long.toNat := by omega
  have t1 : 1 ≤ stN s := by unfold stN; omega
  have tN : ((stN s : Nat) : Int) = s.wide + s.kerf := by unfold stN; omega
  have key : ∀ r x : Nat, v.bottom.length + 1 - x ≤ r → (mostG (blockI v s) v.bottom.length s.long.toNat (stepN s) x).Pairwise (After s) ∧ ∀ p ∈ mostG (blockI v s) v.bottom.length s.long.toNat (stepN s) x, (x : Int) ≤ p.1 ∧ OnBlade v s p ∧ soundI v s p = true := by
    intro r
    induction r with
    | zero => intro x h; rw [mostG_end (by omega)]; exact ⟨List.Pairwise.nil, fun p hp => by simp at hp⟩
    | succ r ih =>
      intro x h
      by_cases hc : x + s.long.toNat ≤ v.bottom.length
      · rw [mostG_step hst hll hc]
        split
        · obtain ⟨i1, i2⟩ := ih (x + 1) (by omega)
          exact ⟨i1, fun p hp => by have := i2 p hp; exact ⟨by omega, this.2⟩⟩
        · obtain ⟨i1, i2⟩ := ih (x + stepN s) (by omega)
          rw [← block_law hv hs hc]
          obtain ⟨g1, g2⟩ := grd_pair (g := refSound v s.long.toNat s.wide x) t1 _ 0 (Nat.le_refl _)
          refine ⟨List.pairwise_append.2 ⟨col_pair g1 tN, i1, fun p hp q hq => ?_⟩, fun p hp => ?_⟩
          · obtain ⟨y, hy, rfl⟩ := List.mem_map.1 hp
            right
            have := (i2 q hq).1
            simp only
            omega
          · rcases List.mem_append.1 hp with hp | hp
            · obtain ⟨y, hy, rfl⟩ := List.mem_map.1 hp
              have := g2 y hy
              exact ⟨Int.le_refl _, ⟨by simp only; omega, by simp only; omega, by simp only; omega, by simp only; omega⟩, this.2.2⟩
            · have := i2 p hp
              exact ⟨by omega, this.2⟩
      · rw [mostG_end (by omega)]; exact ⟨List.Pairwise.nil, fun p hp => by simp at hp⟩
  obtain ⟨k1, k2⟩ := key _ 0 (Nat.le_refl _)
  exact ⟨k1, fun p hp => (k2 p hp).2.1, fun p hp => (k2 p hp).2.2⟩
end Go.Proofs.Ytdgeocjchnandaa.Ab.T01
