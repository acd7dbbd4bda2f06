/- Sticks one after another: no list of sound places is longer than the greatest layout, and the layout is such a list. Plain. The truth as a view: better than the sure one, and no better than the best one at its columns. Plain. A place is sound in truth: the law's own function. -/
import Derived.Test.YtafpicjnccffgaaZN4
import Derived.Test.YtafpicjnccffgaaZP0
import Derived.Test.YtafpicjnccffgaaZN9
import Derived.Test.YtafpicjnccffgaaZQ9
namespace Go.Proofs.Ytafpicjnccffgaa.Ab.T01
open Go Go.RowKit
set_option linter.unusedSimpArgs false
set_option linter.unusedVariables false
/-- The second stick is cut after the first one. -/
def After (s : Sw) (p q : Int × Int) : Prop := (p.1 = q.1 ∧ p.2 + (s.wide + s.kerf) ≤ q.2) ∨ p.1 + (s.long + s.across) ≤ q.1
theorem mny_ge {g : Int → Bool} {st y z : Nat} (hs : 1 ≤ st) (h : y ≤ z) (hz : z ≤ 300) (hg : g z = true) : 1 + mny g st (z + st) ≤ mny g st y := by
  have := mny_mono (g := g) hs y (z - y)
  rw [show y + (z - y) = z by omega, mny_fine hs hz hg] at this
  exact this
theorem chain_most {v : Vw} {s : Sw} (hv : v.Ok) (hs : sawOk s = true) {P : List (Int × Int)} (hP : P.Pairwise (After s)) (hB : ∀ p ∈ P, OnBlade v s p) (hS : ∀ p ∈ P, soundI v s p = true) : P.length ≤ (mostI v s).length := by
  have hs0 := hs
  unfold sawOk at hs0
  simp only [Bool.and_eq_true] at hs0
  have s1 := betw1 hs0.1.1
  have s2 := betw1 hs0.1.2
  have s3 := betw2 hs0.2
  have hst : 1 ≤ stepN s := by unfold stepN; omega
  have hsN : ((stepN s : Nat) : Int) = s.long + s.across := by unfold stepN; omega
  have hll : 1 ≤ s.long.toNat := by omega
  have t1 : 1 ≤ stN s := by unfold stN; omega
  have tN : ((stN s : Nat) : Int) = s.wide + s.kerf := by unfold stN; omega
  unfold mostI
  rw [mostG_len hst hll _ 0 (Nat.le_refl _)]
  have key : ∀ P : List (Int × Int), P.Pairwise (After s) → (∀ p ∈ P, OnBlade v s p) → (∀ p ∈ P, soundI v s p = true) →
      (∀ x : Nat, (∀ p ∈ P, (x : Int) ≤ p.1) → P.length ≤ bst (fun x => (blockI v s x).length) v.bottom.length s.long.toNat (stepN s) x) ∧
      (∀ x y : Nat, (∀ p ∈ P, (p.1 = (x : Int) ∧ (y : Int) ≤ p.2) ∨ (x : Int) + (stepN s : Nat) ≤ p.1) → P.length ≤ mny (refSound v s.long.toNat s.wide x) (stN s) y + bst (fun x => (blockI v s x).length) v.bottom.length s.long.toNat (stepN s) (x + stepN s)) := by
    intro P
    induction P with
    | nil => intro _ _ _; exact ⟨fun x _ => by simp, fun x y _ => by simp⟩
    | cons p P ih =>
      intro hP hB hS
      rw [List.pairwise_cons] at hP
      obtain ⟨hp, hP⟩ := hP
      obtain ⟨iA, iB⟩ := ih hP (fun q hq => hB q (List.mem_cons_of_mem _ hq)) (fun q hq => hS q (List.mem_cons_of_mem _ hq))
      have b := hB p List.mem_cons_self
      have sd := hS p List.mem_cons_self
      obtain ⟨X, Y⟩ := p
      obtain ⟨b1, b2, b3, b4⟩ := b
      simp only at b1 b2 b3 b4
      obtain ⟨x0, rfl⟩ : ∃ n : Nat, X = n := ⟨X.toNat, by omega⟩
      obtain ⟨y0, rfl⟩ : ∃ n : Nat, Y = n := ⟨Y.toNat, by omega⟩
      have sd : refSound v s.long.toNat s.wide x0 (y0 : Int) = true := sd
      have rest := iB x0 (y0 + stN s) fun q hq => by
        have := hp q hq
        unfold After at this
        simp only at this
        rcases this with h | h
        · left; exact ⟨h.1.symm, by omega⟩
        · right; omega
      have A : ∀ x : Nat, (∀ q ∈ ((x0 : Int), (y0 : Int)) :: P, (x : Int) ≤ q.1) → (((x0 : Int), (y0 : Int)) :: P).length ≤ bst (fun x => (blockI v s x).length) v.bottom.length s.long.toNat (stepN s) x := fun x hx => by
        have h0 := hx _ List.mem_cons_self
        simp only at h0
        have hm := bst_mono (f := fun x => (blockI v s x).length) (n := v.bottom.length) hst hll x (x0 - x)
        rw [show x + (x0 - x) = x0 by omega, bst_step hst hll (show x0 + s.long.toNat ≤ v.bottom.length by omega)] at hm
        have hb : (blockI v s x0).length = mny (refSound v s.long.toNat s.wide x0) (stN s) 0 := by
          rw [← block_law hv hs (x := x0) (by omega), grd_length t1 _ 0 (Nat.le_refl _)]
        have hg := mny_ge t1 (Nat.zero_le y0) (by omega) sd
        rw [List.length_cons]
        simp only [hb] at hm
        omega
      refine ⟨A, fun x y hxy => ?_⟩
      rcases hxy _ List.mem_cons_self with h | h
      · simp only at h
        obtain rfl : x0 = x := by omega
        have hg := mny_ge t1 (show y ≤ y0 by omega) (by omega) sd
        rw [List.length_cons]
        omega
      · have := A (x + stepN s) fun q hq => by
          rcases List.mem_cons.1 hq with rfl | hq
          · simp only at h ⊢; omega
          · have := hp q hq
            unfold After at this
            simp only at this h
            omega
        omega
  exact (key P hP hB hS).1 0 fun p hp => by have := (hB p hp).x0; omega
/-- A view at least as good: every spoil of the better one lies within one of the other. -/
structure Bet (v w : Vw) : Prop where
  len : w.bottom.length = v.bottom.length
  low : ∀ c, c < v.bottom.length → nth w.bottom c ≤ nth v.bottom c
  top : ∀ c, c < v.bottom.length → nth v.top c ≤ nth w.top c
  spoils : ∀ t ∈ w.spoils, ∃ u ∈ v.spoils, u.col.1 ≤ t.col.1 ∧ t.col.2 ≤ u.col.2 ∧ u.ht.1 ≤ t.ht.1 ∧ t.ht.2 ≤ u.ht.2
theorem sound_bet {v w : Vw} (hb : Bet v w) {s : Sw} {p : Int × Int} (hp : OnBlade v s p) (h : soundI v s p = true) : soundI w s p = true := by
  obtain ⟨b1, b2, b3, b4⟩ := hp
  unfold soundI refSound at h ⊢
  rw [List.all_eq_true] at h ⊢
  intro d hd
  have hd' : d < s.long.toNat := by simpa using hd
  have := h d hd
  have l := hb.low (p.1.toNat + d) (by omega)
  have t := hb.top (p.1.toNat + d) (by omega)
  unfold colOk at this ⊢
  simp only [Bool.and_eq_true, decide_eq_true_eq, List.all_eq_true] at this ⊢
  refine ⟨⟨by omega, by omega⟩, fun u hu => ?_⟩
  obtain ⟨u', h1, h2, h3, h4, h5⟩ := hb.spoils u hu
  have := this.2 u' h1
  simp only [betw, List.all_cons, List.all_nil, Bool.and_true, Bool.not_eq_true', Bool.and_eq_false_iff, decide_eq_false_iff_not] at this ⊢
  omega
theorem grd_pair {g : Int → Bool} {st : Nat} (hs : 1 ≤ st) : ∀ (r y : Nat), 301 - y ≤ r → (grd g st y).Pairwise (fun a b => a + (st : Int) ≤ b) ∧ ∀ z ∈ grd g st y, (y : Int) ≤ z ∧ z ≤ 300 ∧ g z = true
  | 0, y, h => by rw [grd_end (by omega)]; exact ⟨List.Pairwise.nil, fun z hz => by simp at hz⟩
  | r + 1, y, h => by
    by_cases hy : y ≤ 300
    · rw [grd_step hs hy]
      split
      · rename_i hg
        obtain ⟨i1, i2⟩ := grd_pair (g := g) hs r (y + st) (by omega)
        refine ⟨List.pairwise_cons.2 ⟨fun z hz => ?_, i1⟩, fun z hz => ?_⟩
        · have := (i2 z hz).1; omega
        · rcases List.mem_cons.1 hz with rfl | hz
          · exact ⟨by omega, by omega, hg⟩
          · have := i2 z hz; exact ⟨by omega, this.2⟩
      · obtain ⟨i1, i2⟩ := grd_pair (g := g) hs r (y + 1) (by omega)
        exact ⟨i1, fun z hz => by have := i2 z hz; exact ⟨by omega, this.2⟩⟩
    · rw [grd_end (by omega)]; exact ⟨List.Pairwise.nil, fun z hz => by simp at hz⟩
theorem col_pair {s : Sw} {l : List Int} {x : Int} {st : Nat} (h : l.Pairwise (fun a b => a + (st : Int) ≤ b)) (hst : (st : Int) = s.wide + s.kerf) : (l.map fun y => (x, y)).Pairwise (After s) := by
  rw [List.pairwise_map]
  exact h.imp fun {a b} hab => .inl ⟨rfl, by simp only; omega⟩
theorem most_chain {v : Vw} {s : Sw} (hv : v.Ok) (hs : sawOk s = true) : (mostI v s).Pairwise (After s) ∧ (∀ p ∈ mostI v s, OnBlade v s p) ∧ ∀ p ∈ mostI v s, soundI v s p = true := by
  have hs0 := hs
  unfold sawOk at hs0
  simp only [Bool.and_eq_true] at hs0
  have s1 := betw1 hs0.1.1
  have s2 := betw1 hs0.1.2
  have s3 := betw2 hs0.2
  have hst : 1 ≤ stepN s := by unfold stepN; omega
  have hsN : ((stepN s : Nat) : Int) = s.long + s.across := by unfold stepN; omega
  have hll : 1 ≤ s.long.toNat := by omega
  have t1 : 1 ≤ stN s := by unfold stN; omega
  have tN : ((stN s : Nat) : Int) = s.wide + s.kerf := by unfold stN; omega
  have key : ∀ r x : Nat, v.bottom.length + 1 - x ≤ r → (mostG (blockI v s) v.bottom.length s.long.toNat (stepN s) x).Pairwise (After s) ∧ ∀ p ∈ mostG (blockI v s) v.bottom.length s.long.toNat (stepN s) x, (x : Int) ≤ p.1 ∧ OnBlade v s p ∧ soundI v s p = true := by
    intro r
    induction r with
    | zero => intro x h; rw [mostG_end (by omega)]; exact ⟨List.Pairwise.nil, fun p hp => by simp at hp⟩
    | succ r ih =>
      intro x h
      by_cases hc : x + s.long.toNat ≤ v.bottom.length
      · rw [mostG_step hst hll hc]
        split
        · obtain ⟨i1, i2⟩ := ih (x + 1) (by omega)
          exact ⟨i1, fun p hp => by have := i2 p hp; exact ⟨by omega, this.2⟩⟩
        · obtain ⟨i1, i2⟩ := ih (x + stepN s) (by omega)
          rw [← block_law hv hs hc]
          obtain ⟨g1, g2⟩ := grd_pair (g := refSound v s.long.toNat s.wide x) t1 _ 0 (Nat.le_refl _)
          refine ⟨List.pairwise_append.2 ⟨col_pair g1 tN, i1, fun p hp q hq => ?_⟩, fun p hp => ?_⟩
          · obtain ⟨y, hy, rfl⟩ := List.mem_map.1 hp
            right
            have := (i2 q hq).1
            simp only
            omega
          · rcases List.mem_append.1 hp with hp | hp
            · obtain ⟨y, hy, rfl⟩ := List.mem_map.1 hp
              have := g2 y hy
              exact ⟨Int.le_refl _, ⟨by simp only; omega, by simp only; omega, by simp only; omega, by simp only; omega⟩, this.2.2⟩
            · have := i2 p hp
              exact ⟨by omega, this.2⟩
      · rw [mostG_end (by omega)]; exact ⟨List.Pairwise.nil, fun p hp => by simp at hp⟩
  obtain ⟨k1, k2⟩ := key _ 0 (Nat.le_refl _)
  exact ⟨k1, fun p hp => (k2 p hp).2.1, fun p hp => (k2 p hp).2.2⟩
end Go.Proofs.Ytafpicjnccffgaa.Ab.T01
namespace Go.Proofs.Ytafpicjnccffgaa.Ab.T01
open Go Go.RowKit
set_option linter.unusedSimpArgs false
set_option linter.unusedVariables false
theorem saw_swT {x : Tk} (hx : x.Ok) : sawOk (swT x) = true := by
  obtain ⟨_, _, _, h⟩ := hx
  obtain ⟨a, b, c, d⟩ := h
  unfold By at a b c d
  unfold sawOk swT betw
  simp only [List.all_cons, List.all_nil, Bool.and_true, Bool.and_eq_true, decide_eq_true_eq]
  omega
/-- What truly is. -/
def realV (x : Tk) : Vw := ⟨lowsT x (numT x), topsT x (numT x), (pksT x (numC x)).map fun p => ⟨(p.1, p.1), (p.2.1, p.2.2)⟩⟩
/-- The columns of the true breaks. -/
def colsT (x : Tk) : List Int := (pksT x (numC x)).map (·.1)
theorem pick_in {c : C6} (hc : c.Ok) {n : Int} (hn : 1 ≤ n) : (crackT c n).col.1 ≤ (pickT c n).1 ∧ (pickT c n).1 ≤ (crackT c n).col.2 ∧ (crackT c n).frm.1 ≤ (pickT c n).2.1 ∧ (pickT c n).2.1 ≤ (crackT c n).frm.2 ∧ (crackT c n).to.1 ≤ (pickT c n).2.2 ∧ (pickT c n).2.2 ≤ (crackT c n).to.2 := by
  obtain ⟨a, b, c', d, e, f⟩ := hc
  unfold By at a b c' d e f
  have h1 := Int.emod_nonneg c.a (show n ≠ 0 by omega)
  have h2 := Int.emod_lt_of_pos c.a (show 0 < n by omega)
  have hm : 0 < min (n - 1) (c.a % n + c.c % 4) - c.a % n + 1 := by omega
  have h3 := Int.emod_nonneg c.f (show min (n - 1) (c.a % n + c.c % 4) - c.a % n + 1 ≠ 0 by omega)
  have h4 := Int.emod_lt_of_pos c.f hm
  have hd : 0 < c.d % 20 + 1 := by omega
  have h5 := Int.emod_nonneg c.e (show c.d % 20 + 1 ≠ 0 by omega)
  have h6 := Int.emod_lt_of_pos c.e hd
  have hf : 0 < c.f % 20 + 1 := by omega
  have h7 := Int.emod_nonneg c.b (show c.f % 20 + 1 ≠ 0 by omega)
  have h8 := Int.emod_lt_of_pos c.b hf
  simp only [crackT, pickT]
  omega
theorem colsL_mem {α : Type} {F : α → Crk} {G : α → Int} : ∀ {L : List α}, (∀ a ∈ L, (F a).col.1 ≤ G a ∧ G a ≤ (F a).col.2) → L.map G ∈ colsL (L.map F)
  | [], _ => by simp [colsL]
  | a :: L, h => by
    have i := colsL_mem (F := F) (G := G) (L := L) fun b hb => h b (List.mem_cons_of_mem _ hb)
    have ha := h a List.mem_cons_self
    simp only [List.map_cons, colsL, List.mem_flatMap, List.mem_range, List.mem_map]
    refine ⟨(G a - (F a).col.1).toNat, by omega, _, i, ?_⟩
    rw [show (F a).col.1 + ((G a - (F a).col.1).toNat : Int) = G a by omega]
theorem cracks_len (x : Tk) : (blT x).cracks.length = numC x := by simp [blT, crksT]
theorem pks_len (x : Tk) : (pksT x (numC x)).length = numC x := by simp [pksT]
theorem crack_at {x : Tk} (hx : x.Ok) {i : Nat} (hi : i < numC x) : (nth x.cracks i).Ok := hx.cracks _ (nth_mem (by unfold numC at hi; omega))
theorem cols_true {x : Tk} (hx : x.Ok) : colsT x ∈ colsL (blT x).cracks := by
  have hn := numT_bd x
  unfold colsT pksT
  rw [List.map_map]
  refine colsL_mem fun i hi => ?_
  have := pick_in (crack_at hx (by simpa using hi)) (n := numT x) (by omega)
  exact ⟨this.1, this.2.1⟩
theorem low_in {x : Tk} (hx : x.Ok) {i : Nat} (hi : i < numT x) : inS (nth (newLow (blT x)) i) (lowT x i) := by
  obtain ⟨_, h1, _⟩ := new_some (new_blT hx)
  have hb := bendT_bd x
  obtain ⟨R, r1, _, _, r2⟩ := bent_some (bots_okl hx (numT x)) (bend := bendT x) (by omega) ⟨_, low_path hx _⟩
  have : newLow (blT x) = R := by
    have e : bentS (bendT x) (botsT x (numT x)) = some (newLow (blT x)) := h1
    rw [e] at r1
    exact Option.some.inj r1
  rw [this]
  exact (r2 i (by rw [bots_len]; exact hi) _).2 ⟨_, low_path hx _, rfl⟩
theorem top_in {x : Tk} (hx : x.Ok) {i : Nat} (hi : i < numT x) : inS (nth (newTop (blT x)) i) (topT x i) := by
  obtain ⟨_, _, h1⟩ := new_some (new_blT hx)
  have hb := bendT_bd x
  obtain ⟨R, r1, _, _, r2⟩ := bent_some (tps_okl hx (numT x)) (bend := bendT x) (by omega) ⟨_, top_path hx _⟩
  have : newTop (blT x) = R := by
    have e : bentS (bendT x) (tpsT x (numT x)) = some (newTop (blT x)) := h1
    rw [e] at r1
    exact Option.some.inj r1
  rw [this]
  exact (r2 i (by rw [tps_len]; exact hi) _).2 ⟨_, top_path hx _, rfl⟩
theorem bot_len (x : Tk) : (blT x).bottom.length = numT x := bots_len x _
theorem nthm {α β : Type} [Inhabited α] [Inhabited β] {L : List α} (f : α → β) {i : Nat} (hi : i < L.length) : nth (L.map f) i = f (nth L i) := by
  unfold nth
  simp [List.getD_eq_getElem?_getD, hi]
theorem sure_real {x : Tk} (hx : x.Ok) : Bet (sureB (blT x)) (realV x) := by
  obtain ⟨n0, o1, o2, l1, l2, g1, g2, g3, g4⟩ := new_ok (new_blT hx)
  have hl := bot_len x
  have e1 : (sureB (blT x)).bottom.length = numT x := by simp [sureB, sureV, l1, hl]
  refine ⟨by rw [e1]; simp [realV, lowsT], fun c hc => ?_, fun c hc => ?_, fun t ht => ?_⟩
  · rw [e1] at hc
    have := low_in hx hc
    have e2 : nth (sureB (blT x)).bottom c = (nth (newLow (blT x)) c).2 := nthm _ (by omega)
    have e3 : nth (realV x).bottom c = lowT x c := low_nth hc
    rw [e2, e3]
    exact this.2
  · rw [e1] at hc
    have := top_in hx hc
    have e2 : nth (sureB (blT x)).top c = (nth (newTop (blT x)) c).1 := nthm _ (by omega)
    have e3 : nth (realV x).top c = topT x c := top_nth hc
    rw [e2, e3]
    exact this.1
  · simp only [realV, pksT, List.map_map, List.mem_map, List.mem_range, Function.comp] at ht
    obtain ⟨i, hi, rfl⟩ := ht
    have := pick_in (crack_at hx hi) (n := numT x) (by have := numT_bd x; omega)
    refine ⟨spoilOf (crackT (nth x.cracks i) (numT x)), ?_, this.1, this.2.1, this.2.2.1, this.2.2.2.2.2⟩
    unfold sureB sureV
    exact List.mem_map.2 ⟨_, List.mem_map.2 ⟨i, List.mem_range.2 hi, rfl⟩, rfl⟩
theorem real_best {x : Tk} (hx : x.Ok) : Bet (realV x) (bestB (blT x) (colsT x)) := by
  obtain ⟨n0, o1, o2, l1, l2, g1, g2, g3, g4⟩ := new_ok (new_blT hx)
  have hl := bot_len x
  have e1 : (realV x).bottom.length = numT x := by simp [realV, lowsT]
  refine ⟨by rw [e1]; simp [bestB, bestV, l1, hl], fun c hc => ?_, fun c hc => ?_, fun t ht => ?_⟩
  · rw [e1] at hc
    have := low_in hx hc
    have e2 : nth (bestB (blT x) (colsT x)).bottom c = (nth (newLow (blT x)) c).1 := nthm _ (by omega)
    have e3 : nth (realV x).bottom c = lowT x c := low_nth hc
    rw [e2, e3]
    exact this.1
  · rw [e1] at hc
    have := top_in hx hc
    have e2 : nth (bestB (blT x) (colsT x)).top c = (nth (newTop (blT x)) c).2 := nthm _ (by omega)
    have e3 : nth (realV x).top c = topT x c := top_nth hc
    rw [e2, e3]
    exact this.2
  · simp only [bestB, bestV, bestSpoils, List.mem_map, List.mem_range] at ht
    obtain ⟨i, hi, rfl⟩ := ht
    rw [cracks_len] at hi
    have := pick_in (crack_at hx hi) (n := numT x) (by have := numT_bd x; omega)
    have ec : nth (blT x).cracks i = crackT (nth x.cracks i) (numT x) := nth_range hi
    have el : nth (colsT x) i = (pickT (nth x.cracks i) (numT x)).1 := by
      unfold colsT
      rw [nthm _ (by rw [pks_len]; exact hi)]
      have e : nth (pksT x (numC x)) i = pickT (nth x.cracks i) (numT x) := nth_range hi
      rw [e]
    rw [ec, el]
    refine ⟨⟨((pickT (nth x.cracks i) (numT x)).1, (pickT (nth x.cracks i) (numT x)).1), ((pickT (nth x.cracks i) (numT x)).2.1, (pickT (nth x.cracks i) (numT x)).2.2)⟩, ?_, Int.le_refl _, Int.le_refl _, this.2.2.2.1, this.2.2.2.2.1⟩
    exact List.mem_map.2 ⟨_, List.mem_map.2 ⟨i, List.mem_range.2 hi, rfl⟩, rfl⟩
theorem possJ_max (b : Bl) (s : Sw) : ∀ {n i : Nat}, i < n → (cntP b s i : Int) ≤ (possJ b s n).1
  | n + 1, i, h => by
    rw [possJ]
    by_cases e : i = n
    · subst e
      split
      · exact Int.le_refl _
      · omega
    · have := possJ_max b s (n := n) (i := i) (by omega)
      split
      · simp only; omega
      · exact this
theorem poss_ge {b : Bl} {s : Sw} {l : List Int} (hO : openErr b s = 0) (hl : l ∈ colsL b.cracks) : ((mostI (bestB b l) s).length : Int) ≤ (possR b s).1 := by
  obtain ⟨j, hj, rfl⟩ := List.mem_iff_getElem.1 hl
  have h := possJ_max b s hj
  unfold possR
  rw [if_pos hO]
  have e : (colsL b.cracks)[j] = nth (colsL b.cracks) j := by
    unfold nth
    simp [List.getD_eq_getElem?_getD, hj]
  rw [e]
  exact h
theorem open_tk {x : Tk} (hx : x.Ok) : openErr (blT x) (swT x) = 0 := by
  unfold openErr
  rw [if_neg (by rw [new_blT hx]; simp), if_pos (saw_swT hx)]
/-- Sticks that are sound in truth, one after another: no more than Possible says. -/
theorem chain_poss {x : Tk} (hx : x.Ok) {P : List (Int × Int)} (hP : P.Pairwise (After (swT x))) (hB : ∀ p ∈ P, OnBlade (realV x) (swT x) p) (hS : ∀ p ∈ P, soundI (realV x) (swT x) p = true) : (P.length : Int) ≤ (possR (blT x) (swT x)).1 := by
  have hb := real_best hx
  have := chain_most (best_ok (new_blT hx) (colsT x)) (saw_swT hx) hP (fun p hp => ⟨(hB p hp).x0, by rw [hb.len]; exact (hB p hp).x1, (hB p hp).y0, (hB p hp).y1⟩) fun p hp => sound_bet hb (hB p hp) (hS p hp)
  have h2 := poss_ge (open_tk hx) (cols_true hx)
  omega
theorem poss_true {x : Tk} (hx : x.Ok) {p : Int × Int} (hB : OnBlade (realV x) (swT x) p) (hS : soundI (realV x) (swT x) p = true) : possB (blT x) (swT x) p = true :=
  List.any_eq_true.2 ⟨_, cols_true hx, sound_bet (real_best hx) hB hS⟩
theorem real_len (x : Tk) : (realV x).bottom.length = numT x := by simp [realV, lowsT]
theorem place_tk {x : Tk} {p : Int × Int} (hB : OnBlade (realV x) (swT x) p) : isPlace (blT x).bottom.length (swT x).long p.1 p.2 = true := by
  obtain ⟨a, b, c, d⟩ := hB
  rw [real_len] at b
  rw [bot_len]
  unfold isPlace betw
  simp only [List.all_cons, List.all_nil, Bool.and_true, Bool.and_eq_true, decide_eq_true_eq]
  omega
end Go.Proofs.Ytafpicjnccffgaa.Ab.T01
namespace Go.Proofs.Ytafpicjnccffgaa.Ab.T01
open Go Go.RowKit
set_option linter.unusedSimpArgs false
set_option linter.unusedVariables false
set_option maxRecDepth 100000
set_option pp.maxSteps 1000000
set_option pp.deepTerms true
def pkV (p : Int × Int × Int) : Spo := ⟨(p.1, p.1), (p.2.1, p.2.2)⟩
/-- A view of heights and picks. -/
def rV (lo tp : List Int) (pk : List (Int × Int × Int)) : Vw := ⟨lo, tp, pk.map pkV⟩
def hitP (s : Sw) (p : Int × Int) (k : Int × Int × Int) : Bool := decide (p.1 ≤ k.1) && decide (k.1 < p.1 + s.long) && decide (p.2 < k.2.2) && decide (k.2.1 < p.2 + s.wide)
theorem sound_real {lo tp : List Int} {pk : List (Int × Int × Int)} {s : Sw} {p : Int × Int} (hp : OnBlade (rV lo tp pk) s p) (hl : 1 ≤ s.long) :
    soundI (rV lo tp pk) s p = true ↔ (∀ d : Nat, d < s.long.toNat → nth lo (p.1.toNat + d) ≤ p.2 ∧ p.2 + s.wide ≤ nth tp (p.1.toNat + d)) ∧ ∀ k ∈ pk, hitP s p k = false := by
  obtain ⟨b1, b2, b3, b4⟩ := hp
  have hc : ∀ c : Nat, colOk (rV lo tp pk) s.wide p.2 c = true ↔ (nth lo c ≤ p.2 ∧ p.2 + s.wide ≤ nth tp c) ∧ ∀ k ∈ pk, ¬ (k.1 = (c : Int) ∧ p.2 < k.2.2 ∧ k.2.1 < p.2 + s.wide) := fun c => by
    show (decide (nth lo c ≤ p.2) && decide (p.2 + s.wide ≤ nth tp c) && (pk.map pkV).all fun u => !(betw u.col.1 u.col.2 [(c : Int)] && decide (u.ht.2 > p.2) && decide (u.ht.1 < p.2 + s.wide))) = true ↔ _
    rw [Bool.and_eq_true, Bool.and_eq_true, decide_eq_true_eq, decide_eq_true_eq, List.all_map, List.all_eq_true]
    refine and_congr Iff.rfl (forall_congr' fun k => forall_congr' fun _ => ?_)
    show (!(((decide (k.1 ≤ (c : Int)) && decide ((c : Int) ≤ k.1)) && true) && decide (k.2.2 > p.2) && decide (k.2.1 < p.2 + s.wide))) = true ↔ _
    rw [Bool.not_eq_true', Bool.and_true, Bool.and_eq_false_iff, Bool.and_eq_false_iff, Bool.and_eq_false_iff, decide_eq_false_iff_not, decide_eq_false_iff_not, decide_eq_false_iff_not, decide_eq_false_iff_not]
    omega
  have hh : ∀ k : Int × Int × Int, hitP s p k = false ↔ ¬ (p.1 ≤ k.1 ∧ k.1 < p.1 + s.long ∧ p.2 < k.2.2 ∧ k.2.1 < p.2 + s.wide) := fun k => by
    unfold hitP
    rw [Bool.and_eq_false_iff, Bool.and_eq_false_iff, Bool.and_eq_false_iff, decide_eq_false_iff_not, decide_eq_false_iff_not, decide_eq_false_iff_not, decide_eq_false_iff_not]
    omega
  unfold soundI refSound
  rw [List.all_eq_true]
  simp only [hc, hh, List.mem_range]
  constructor
  · intro h
    refine ⟨fun d hd => (h d hd).1, fun k hk hn => ?_⟩
    exact (h (k.1 - p.1).toNat (by omega)).2 k hk ⟨by omega, hn.2.2⟩
  · rintro ⟨h1, h2⟩ d hd
    exact ⟨h1 d hd, fun k hk hn => h2 k hk ⟨by omega, by omega, hn.2⟩⟩
theorem real_spec (lo tp : List Int) (pk : List (Int × Int × Int)) (s : Sw) (p : Int × Int) (hs : sawOk s = true) (hlen : lo.length = tp.length) (h1 : lo.length ≤ 100) (h2 : pk.length ≤ 100) (hp : OnBlade (rV lo tp pk) s p) :
    SpecF Try.prog 30 [.agg [.sl 1 (lo.map iR), .sl 1 (tp.map iR), .sl 3 (pk.map pk3)], .agg [.v (.int .i64 s.long), .v (.int .i64 s.wide), .v (.int .i64 s.kerf), .v (.int .i64 s.across)], .agg [.v (.int .i64 p.1), .v (.int .i64 p.2)]] (.v (.bool (soundI (rV lo tp pk) s p))) [] := by
  have hs0 := hs
  unfold sawOk at hs
  simp only [Bool.and_eq_true] at hs
  have s1 := betw1 hs.1.1
  have s2 := betw1 hs.1.2
  have hiff := sound_real hp (by omega)
  obtain ⟨b1, b2, b3, b4⟩ := hp
  have b2 : p.1 + s.long ≤ (lo.length : Int) := b2
  obtain ⟨X, Y⟩ := p
  simp only at b1 b2 b3 b4
  obtain ⟨x0, rfl⟩ : ∃ n : Nat, X = n := ⟨X.toNat, by omega⟩
  have eN : ((x0 : Nat) : Int).toNat = x0 := rfl
  simp only [eN] at hiff
  obtain ⟨L, hL⟩ : ∃ L : Nat, s.long = L := ⟨s.long.toNat, by omega⟩
  rw [hL] at s1 b2 hiff
  have eL : ((L : Nat) : Int).toNat = L := rfl
  simp only [eL] at hiff
  rw [hL]
  have e1 : IntKind.i64.wrap ((x0 : Int) + (L : Int)) = ((x0 + L : Nat) : Int) := wrap_id (by omega) (by omega)
  have e2 : IntKind.i64.wrap (Y + s.wide) = Y + s.wide := wrap_id (by omega) (by omega)
  obtain ⟨ans, hans⟩ : ∃ ans, ans = soundI (rV lo tp pk) s ((x0 : Int), Y) := ⟨_, rfl⟩
  rw [← hans] at hiff ⊢
  refine spec_go (N := 97) (rs := [.tmp 6]) (eq := eqs) rfl rfl fun_30 rfl (by kernel_rfl) (by kernel_rfl) (by simp) (by simp) (by simp) (by simp) fun R hR => ?_
  simp (maxSteps := 2000000) only [vcA, ↓vcP, ↓reduceIte, reduceCtorEq, Nat.reduceAdd, Nat.reduceMul, Nat.reduceSub, Nat.reduceLT, Nat.reduceLeDiff, Nat.reduceEqDiff, Nat.reduceBEq, Nat.reduceBNe, Nat.reduceGT, Nat.reduceDiv, Nat.reduceMod, Int.reduceAdd, Int.reduceSub, Int.reduceNeg, Int.reduceLT, Int.reduceLE, Int.reduceEq, Int.reduceToNat, fA]
  refine goC_loop (α := {d : Nat // d ≤ L ∧ ∀ e, e < d → nth lo (x0 + e) ≤ Y ∧ Y + s.wide ≤ nth tp (x0 + e)}) (fun y => ⟨[(3, .ptr 8 0), (4, .ptr 16 0), (5, .ptr 24 0), (7, .v (.int .i64 ((x0 + y.1 : Nat) : Int)))], [(8, .box 59 [.sl 1 (lo.map iR), .sl 1 (tp.map iR), .sl 3 (pk.map pk3)]), (16, .box 27 [.v (.int .i64 L), .v (.int .i64 s.wide), .v (.int .i64 s.kerf), .v (.int .i64 s.across)]), (24, .box 42 [.v (.int .i64 x0), .v (.int .i64 Y)])]⟩) (fun y => L - y.1) ⟨0, by omega, fun e he => absurd he (Nat.not_lt_zero _)⟩ [] ?_ ?_
  · simp (maxSteps := 2000000) only [enA, ↓enP, Nat.reduceAdd, Nat.reduceMul, Nat.reduceSub, Nat.reduceLT, Nat.reduceLeDiff, Nat.reduceEqDiff, Nat.reduceBEq, ↓reduceIte, reduceCtorEq, fA]
    simp
  intro y B hB
  obtain ⟨d, hd, hx⟩ := y
  simp only at hB ⊢
  by_cases ci : d < L
  · have pi : ((x0 + d : Nat) : Int) < ((x0 + L : Nat) : Int) := by omega
    have pi := eq_true pi
    have p0 : (((x0 + d : Nat) : Int) < 0) = False := eq_false (by omega)
    have q1 : x0 + d < lo.length := by omega
    have q2 : x0 + d < tp.length := by omega
    have pq : ((lo.length : Int) ≤ ((x0 + d : Nat) : Int)) = False := eq_false (by omega)
    have ei : IntKind.i64.wrap (((x0 + d : Nat) : Int) + 1) = ((x0 + (d + 1) : Nat) : Int) := by rw [wrap_id (by omega) (by omega)]; omega
    simp (maxSteps := 2000000) only [vcA, ↓vcP, ↓reduceIte, reduceCtorEq, Nat.reduceAdd, Nat.reduceMul, Nat.reduceSub, Nat.reduceLT, Nat.reduceLeDiff, Nat.reduceEqDiff, Nat.reduceBEq, Nat.reduceBNe, Nat.reduceGT, Nat.reduceDiv, Nat.reduceMod, Int.reduceAdd, Int.reduceSub, Int.reduceNeg, Int.reduceLT, Int.reduceLE, Int.reduceEq, Int.reduceToNat, fA, pi, p0, pq, q1, q2, e1, e2, iR]
    refine ⟨fun a1 => ⟨fun a2 => hR _ (fin_of1 [] ?_), fun a2 => ?_⟩, fun a1 => hR _ (fin_of1 [] ?_)⟩
    · have : ans = false := by
        cases ans with
        | false => rfl
        | true => have := (hiff.1 rfl).1 d ci; omega
      rw [this]
      simp (maxSteps := 2000000) only [enA, ↓enP, Nat.reduceAdd, Nat.reduceMul, Nat.reduceSub, Nat.reduceLT, Nat.reduceLeDiff, Nat.reduceEqDiff, Nat.reduceBEq, ↓reduceIte, reduceCtorEq, fA]
    · refine hB _ ⟨d + 1, by omega, fun e he => ?_⟩ [] (by simp only; omega) rfl ?_
      · by_cases h : e = d
        · subst h; exact ⟨a1, a2⟩
        · exact hx e (by omega)
      simp (maxSteps := 2000000) only [enA, ↓enP, Nat.reduceAdd, Nat.reduceMul, Nat.reduceSub, Nat.reduceLT, Nat.reduceLeDiff, Nat.reduceEqDiff, Nat.reduceBEq, ↓reduceIte, reduceCtorEq, fA, ei]
    · have : ans = false := by
        cases ans with
        | false => rfl
        | true => have := (hiff.1 rfl).1 d ci; omega
      rw [this]
      simp (maxSteps := 2000000) only [enA, ↓enP, Nat.reduceAdd, Nat.reduceMul, Nat.reduceSub, Nat.reduceLT, Nat.reduceLeDiff, Nat.reduceEqDiff, Nat.reduceBEq, ↓reduceIte, reduceCtorEq, fA]
  have ce : d = L := by omega
  subst ce
  have pi : (((x0 + d : Nat) : Int) < ((x0 + d : Nat) : Int)) = False := eq_false (by omega)
  simp (maxSteps := 2000000) only [vcA, ↓vcP, ↓reduceIte, reduceCtorEq, Nat.reduceAdd, Nat.reduceMul, Nat.reduceSub, Nat.reduceLT, Nat.reduceLeDiff, Nat.reduceEqDiff, Nat.reduceBEq, Nat.reduceBNe, Nat.reduceGT, Nat.reduceDiv, Nat.reduceMod, Int.reduceAdd, Int.reduceSub, Int.reduceNeg, Int.reduceLT, Int.reduceLE, Int.reduceEq, Int.reduceToNat, fA, pi, e1]
  refine goC_loop (α := {i : Nat // i ≤ pk.length ∧ ∀ k, k < i → hitP s ((x0 : Int), Y) (nth pk k) = false}) (fun y => ⟨[(3, .ptr 8 0), (4, .ptr 16 0), (5, .ptr 24 0), (8, .v (.int .i64 (y.1 : Int)))], [(8, .box 59 [.sl 1 (lo.map iR), .sl 1 (tp.map iR), .sl 3 (pk.map pk3)]), (16, .box 27 [.v (.int .i64 (d : Int)), .v (.int .i64 s.wide), .v (.int .i64 s.kerf), .v (.int .i64 s.across)]), (24, .box 42 [.v (.int .i64 x0), .v (.int .i64 Y)])]⟩) (fun y => pk.length - y.1) ⟨0, by omega, fun e he => absurd he (Nat.not_lt_zero _)⟩ [] ?_ ?_
  · simp (maxSteps := 2000000) only [enA, ↓enP, Nat.reduceAdd, Nat.reduceMul, Nat.reduceSub, Nat.reduceLT, Nat.reduceLeDiff, Nat.reduceEqDiff, Nat.reduceBEq, ↓reduceIte, reduceCtorEq, fA]
    simp
  clear hB
  intro y B hB
  obtain ⟨i, hi, hz⟩ := y
  simp only at hB ⊢
  by_cases ci : i < pk.length
  · have qi : (i < pk.length) = True := eq_true ci
    have ei : IntKind.i64.wrap ((i : Int) + 1) = ((i + 1 : Nat) : Int) := wrap_id (by omega) (by omega)
    simp (maxSteps := 2000000) only [vcA, ↓vcP, ↓reduceIte, reduceCtorEq, Nat.reduceAdd, Nat.reduceMul, Nat.reduceSub, Nat.reduceLT, Nat.reduceLeDiff, Nat.reduceEqDiff, Nat.reduceBEq, Nat.reduceBNe, Nat.reduceGT, Nat.reduceDiv, Nat.reduceMod, Int.reduceAdd, Int.reduceSub, Int.reduceNeg, Int.reduceLT, Int.reduceLE, Int.reduceEq, Int.reduceToNat, fA, qi, e1, e2, pk3]
    have nxt : hitP s ((x0 : Int), Y) (nth pk i) = false → ∀ k, k < i + 1 → hitP s ((x0 : Int), Y) (nth pk k) = false := fun h k hk => by
      by_cases e : k = i
      · rw [e]; exact h
      · exact hz k (by omega)
    have hno : ¬ ((x0 : Int) ≤ (nth pk i).1 ∧ (nth pk i).1 < (x0 : Int) + (d : Int) ∧ Y < (nth pk i).2.2 ∧ (nth pk i).2.1 < Y + s.wide) → hitP s ((x0 : Int), Y) (nth pk i) = false := fun h => by
      cases hh : hitP s ((x0 : Int), Y) (nth pk i) with
      | false => rfl
      | true =>
        unfold hitP at hh
        simp only [Bool.and_eq_true, decide_eq_true_eq, hL] at hh
        exact absurd ⟨hh.1.1.1, hh.1.1.2, hh.1.2, hh.2⟩ h
    refine ⟨fun a1 => ⟨fun a2 => ⟨fun a3 => ⟨fun a4 => hR _ (fin_of1 [] ?_), fun a4 => ?_⟩, fun a3 => ?_⟩, fun a2 => ?_⟩, fun a1 => ?_⟩
    · have : ans = false := by
        cases ans with
        | false => rfl
        | true =>
          have := (hiff.1 rfl).2 _ (nth_mem ci)
          unfold hitP at this
          simp only [Bool.and_eq_false_iff, decide_eq_false_iff_not, hL] at this
          omega
      rw [this]
      simp (maxSteps := 2000000) only [enA, ↓enP, Nat.reduceAdd, Nat.reduceMul, Nat.reduceSub, Nat.reduceLT, Nat.reduceLeDiff, Nat.reduceEqDiff, Nat.reduceBEq, ↓reduceIte, reduceCtorEq, fA]
    all_goals
      refine hB _ ⟨i + 1, by omega, nxt (hno (by omega))⟩ [] (by simp only; omega) rfl ?_
      simp (maxSteps := 2000000) only [enA, ↓enP, Nat.reduceAdd, Nat.reduceMul, Nat.reduceSub, Nat.reduceLT, Nat.reduceLeDiff, Nat.reduceEqDiff, Nat.reduceBEq, ↓reduceIte, reduceCtorEq, fA, ei]
  have qi : (i < pk.length) = False := eq_false ci
  have : ans = true := hiff.2 ⟨hx, fun k hk => by
    obtain ⟨j, hj, rfl⟩ := List.mem_iff_getElem.1 hk
    have := hz j (by omega)
    unfold nth at this
    simpa [List.getD_eq_getElem?_getD, hj] using this⟩
  simp (maxSteps := 2000000) only [vcA, ↓vcP, ↓reduceIte, reduceCtorEq, Nat.reduceAdd, Nat.reduceMul, Nat.reduceSub, Nat.reduceLT, Nat.reduceLeDiff, Nat.reduceEqDiff, Nat.reduceBEq, Nat.reduceBNe, Nat.reduceGT, Nat.reduceDiv, Nat.reduceMod, Int.reduceAdd, Int.reduceSub, Int.reduceNeg, Int.reduceLT, Int.reduceLE, Int.reduceEq, Int.reduceToNat, fA, qi]
  refine hR _ (fin_of1 [] ?_)
  rw [this]
  simp (maxSteps := 2000000) only [enA, ↓enP, Nat.reduceAdd, Nat.reduceMul, Nat.reduceSub, Nat.reduceLT, Nat.reduceLeDiff, Nat.reduceEqDiff, Nat.reduceBEq, ↓reduceIte, reduceCtorEq, fA]
end Go.Proofs.Ytafpicjnccffgaa.Ab.T01
