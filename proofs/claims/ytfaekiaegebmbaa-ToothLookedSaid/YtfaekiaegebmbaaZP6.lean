/- ToothLooked: a column sounded. Plain. -/
import Derived.Test.YtfaekiaegebmbaaZP4
import Derived.Test.YtfaekiaegebmbaaZQ9
import Derived.Test.YtfaekiaegebmbaaZS8
namespace Go.Proofs.Ytfaekiaegebmbaa.Ab.T01
open Go Go.RowKit
set_option linter.unusedSimpArgs false
set_option linter.unusedVariables false
/-- The curve of a list of spans with one column set. -/
theorem cv_set {L R : List Sp} {bend : Int} (hok : Okl L) (hb : 0 ≤ bend) (hl : 0 < L.length) (hR : bentS bend L = some R) {i : Nat} {n : Int} (hi : i < L.length) (hn : inS (nth R i) n) :
    ∃ S, bentS bend (L.set i (n, n)) = some S ∧ S.length = L.length ∧ Okl S ∧ ∀ j, j < L.length → ∀ h, inS (nth S j) h ↔ ∃ p, Path L bend p ∧ p i = n ∧ p j = h := by
  have c := cv_of hok hb hl hR
  have hw := cv_in c hi
  have hnL : inS (nth L i) n := by unfold inS at hn ⊢; omega
  obtain ⟨p, hp, e⟩ := (c.mem i hi n).1 hn
  obtain ⟨S, s1, s2, s3, s4⟩ := bent_some (okl_set hok hi hnL) hb ⟨p, (path_set hi hnL).2 ⟨hp, e⟩⟩
  refine ⟨S, s1, by rw [s2, List.length_set], s3, fun j hj h => ?_⟩
  rw [s4 j (by rw [List.length_set]; exact hj) h]
  constructor
  · rintro ⟨q, hq, e⟩
    obtain ⟨a, b⟩ := (path_set hi hnL).1 hq
    exact ⟨q, a, b, e⟩
  · rintro ⟨q, a, b, e⟩
    exact ⟨q, (path_set hi hnL).2 ⟨a, b⟩, e⟩
/-- It lies in the curve. -/
theorem cv_set_in {L R S : List Sp} {bend : Int} (hok : Okl L) (hb : 0 ≤ bend) (hl : 0 < L.length) (hR : bentS bend L = some R) {i : Nat} {n : Int} (hi : i < L.length) (hn : inS (nth R i) n) (hS : bentS bend (L.set i (n, n)) = some S) {j : Nat} (hj : j < L.length) : (nth R j).1 ≤ (nth S j).1 ∧ (nth S j).2 ≤ (nth R j).2 := by
  have c := cv_of hok hb hl hR
  obtain ⟨S', s1, s2, s3, s4⟩ := cv_set hok hb hl hR hi hn
  rw [hS] at s1
  cases s1
  have ho := nth_ok s3 (i := j) (by omega)
  obtain ⟨p, a, _, e⟩ := (s4 j hj _).1 ⟨Int.le_refl _, ho.2.1⟩
  obtain ⟨q, b, _, f⟩ := (s4 j hj _).1 ⟨ho.2.1, Int.le_refl _⟩
  have g1 := (c.mem j hj (nth S j).1).2 ⟨p, a, e⟩
  have g2 := (c.mem j hj (nth S j).2).2 ⟨q, b, f⟩
  unfold inS at g1 g2
  omega
/-- With a higher height it is higher. -/
theorem cv_set_mono {L R S T : List Sp} {bend : Int} (hok : Okl L) (hb : 0 ≤ bend) (hl : 0 < L.length) (hR : bentS bend L = some R) {i : Nat} {n m : Int} (hi : i < L.length) (hn : inS (nth R i) n) (hm : inS (nth R i) m) (hnm : n ≤ m) (hS : bentS bend (L.set i (n, n)) = some S) (hT : bentS bend (L.set i (m, m)) = some T) {j : Nat} (hj : j < L.length) : (nth S j).1 ≤ (nth T j).1 ∧ (nth S j).2 ≤ (nth T j).2 := by
  obtain ⟨S', s1, s2, s3, s4⟩ := cv_set hok hb hl hR hi hn
  rw [hS] at s1
  cases s1
  obtain ⟨T', t1, t2, t3, t4⟩ := cv_set hok hb hl hR hi hm
  rw [hT] at t1
  cases t1
  have hs := nth_ok s3 (i := j) (by omega)
  have ht := nth_ok t3 (i := j) (by omega)
  obtain ⟨p, a1, a2, a3⟩ := (s4 j hj _).1 ⟨hs.2.1, Int.le_refl _⟩
  obtain ⟨q, b1, b2, b3⟩ := (t4 j hj _).1 ⟨Int.le_refl _, ht.2.1⟩
  constructor
  · have := (s4 j hj (min (p j) (q j))).2 ⟨_, path_min a1 b1, by omega, rfl⟩
    unfold inS at this
    omega
  · have := (t4 j hj (max (p j) (q j))).2 ⟨_, path_max a1 b1, by omega, rfl⟩
    unfold inS at this
    omega
/-- A blade with both edges of a column known. -/
def pointB (b : Bl) (i : Nat) (n m : Int) : Bl := { b with bottom := b.bottom.set i (n, n), top := b.top.set i (m, m) }
theorem small_point {b : Bl} (h : Small b) (i : Nat) (n m : Int) : Small (pointB b i n m) := ⟨by show (b.bottom.set i _).length < 1000; rw [List.length_set]; exact h.bottom, by show (b.top.set i _).length < 1000; rw [List.length_set]; exact h.top, h.cracks⟩
theorem point_new {b : Bl} (h : newErr b = 0) {i : Nat} {n m : Int} (hi : i < b.bottom.length) (hn : inS (nth (newLow b) i) n) (hm : inS (nth (newTop b) i) m) :
    newErr (pointB b i n m) = 0 ∧ bentS b.bend (b.bottom.set i (n, n)) = some (newLow (pointB b i n m)) ∧ bentS b.bend (b.top.set i (m, m)) = some (newTop (pointB b i n m)) := by
  obtain ⟨hf, r1, r2⟩ := new_some h
  obtain ⟨f1, f2, f3, f4, f5, f6, f7⟩ := form_ok hf
  obtain ⟨k1, k2⟩ := edges_okl f1 f6
  have w1 := cv_in (cv_of k1 f5.1 (by omega) r1) hi
  have w2 := cv_in (cv_of k2 f5.1 (by omega) r2) (i := i) (by omega)
  have h1 := (point_low h hi (n := n) (by unfold inS at hn ⊢; omega)).1 hn
  obtain ⟨_, q1, q2⟩ := new_some h1
  have e : newTop ⟨b.bottom.set i (n, n), b.top, b.bend, b.cracks⟩ = newTop b := by
    have q2 : bentS b.bend b.top = some _ := q2
    rw [r2] at q2
    exact (Option.some.inj q2).symm
  have h2 := (point_top h1 (i := i) (n := m) (by show i < (b.bottom.set i (n, n)).length; rw [List.length_set]; exact hi) (by show inS (nth b.top i) m; unfold inS at hm ⊢; omega)).1 (by rw [e]; exact hm)
  obtain ⟨_, z1, z2⟩ := new_some h2
  exact ⟨h2, z1, z2⟩
theorem better_of {b c : Bl} (h1 : newErr b = 0) (h2 : newErr c = 0) (hl : c.bottom.length = b.bottom.length) (hc : c.cracks = b.cracks) (hlow : ∀ j, j < b.bottom.length → (nth (newLow c) j).2 ≤ (nth (newLow b) j).2) (htop : ∀ j, j < b.bottom.length → (nth (newTop b) j).1 ≤ (nth (newTop c) j).1) : Better (sureB b) (sureB c) := by
  obtain ⟨_, _, _, l1, l2, _⟩ := new_ok h1
  obtain ⟨_, _, _, l3, l4, _⟩ := new_ok h2
  obtain ⟨hf, _⟩ := new_some h1
  obtain ⟨f1, _⟩ := form_ok hf
  have q1 : ∀ (L : List Sp) (j : Nat), j < L.length → nth (L.map (·.2)) j = (nth L j).2 := fun L j hj => by
    unfold nth
    simp [List.getD_eq_getElem?_getD, hj]
  have q2 : ∀ (L : List Sp) (j : Nat), j < L.length → nth (L.map (·.1)) j = (nth L j).1 := fun L j hj => by
    unfold nth
    simp [List.getD_eq_getElem?_getD, hj]
  refine ⟨?_, fun j hj => ?_, fun j hj => ?_, ?_⟩
  · simp only [sureB, sureV, List.length_map]; omega
  · have hj' : j < b.bottom.length := by simp only [sureB, sureV, List.length_map] at hj; omega
    show nth ((newLow c).map (·.2)) j ≤ nth ((newLow b).map (·.2)) j
    rw [q1 _ _ (by omega), q1 _ _ (by omega)]
    exact hlow j hj'
  · have hj' : j < b.bottom.length := by simp only [sureB, sureV, List.length_map] at hj; omega
    show nth ((newTop b).map (·.1)) j ≤ nth ((newTop c).map (·.1)) j
    rw [q2 _ _ (by omega), q2 _ _ (by omega)]
    exact htop j hj'
  · simp only [sureB, sureV, hc]
/-- With the edges of a column known there are no fewer sticks, and no more than with the best edges. -/
theorem point_more {b : Bl} {s : Sw} (h : newErr b = 0) (hs : sawOk s = true) {i : Nat} {n m : Int} (hi : i < b.bottom.length) (hn : inS (nth (newLow b) i) n) (hm : inS (nth (newTop b) i) m) :
    (mostI (sureB b) s).length ≤ (mostI (sureB (pointB b i n m)) s).length ∧ (mostI (sureB (pointB b i n m)) s).length ≤ (mostI (sureB (soundedB b i)) s).length := by
  obtain ⟨hf, r1, r2⟩ := new_some h
  obtain ⟨f1, f2, f3, f4, f5, f6, f7⟩ := form_ok hf
  obtain ⟨k1, k2⟩ := edges_okl f1 f6
  obtain ⟨p0, p1, p2⟩ := point_new h hi hn hm
  have w1 := cv_in (cv_of k1 f5.1 (by omega) r1) hi
  have w2 := cv_in (cv_of k2 f5.1 (by omega) r2) (i := i) (by omega)
  have b1 : inS (nth (newLow b) i) (nth (newLow b) i).1 := ⟨Int.le_refl _, w1.2.1⟩
  have b2 : inS (nth (newTop b) i) (nth (newTop b) i).2 := ⟨w2.2.1, Int.le_refl _⟩
  obtain ⟨s0, s1, s2⟩ := point_new h hi b1 b2
  have hsE : pointB b i (nth (newLow b) i).1 (nth (newTop b) i).2 = soundedB b i := rfl
  rw [hsE] at s0 s1 s2
  have n1 : (pointB b i n m).bottom.length = b.bottom.length := List.length_set
  have n2 : (soundedB b i).bottom.length = b.bottom.length := List.length_set
  constructor
  · refine most_more (sure_ok h) (sure_ok p0) hs (better_of h p0 n1 rfl (fun j hj => ?_) (fun j hj => ?_))
    · exact (cv_set_in k1 f5.1 (by omega) r1 hi hn p1 hj).2
    · exact (cv_set_in k2 f5.1 (by omega) r2 (by omega) hm p2 (by omega)).1
  · refine most_more (sure_ok p0) (sure_ok s0) hs (better_of p0 s0 (by omega) rfl (fun j hj => ?_) (fun j hj => ?_))
    · exact (cv_set_mono k1 f5.1 (by omega) r1 hi b1 hn hn.1 s1 p1 (j := j) (by omega)).2
    · exact (cv_set_mono k2 f5.1 (by omega) r2 (by omega) hm b2 hm.2 p2 s2 (j := j) (by omega)).1
theorem lookG_ge {g : Nat → Int} : ∀ {n i : Nat}, i < n → g i ≤ (lookG g n).2
  | n + 1, i, h => by
    rw [lookG]
    by_cases e : i = n
    · subst e
      split
      · exact Int.le_refl _
      · rename_i h; omega
    · have := lookG_ge (g := g) (n := n) (i := i) (by omega)
      split
      · rename_i h; simp only; omega
      · exact this
theorem lookG_nn {g : Nat → Int} : ∀ (n : Nat), 0 ≤ (lookG g n).2
  | 0 => Int.le_refl _
  | n + 1 => by
    have := lookG_nn (g := g) n
    rw [lookG]
    split
    · rename_i h; simp only; omega
    · exact this
theorem lookG_at {g : Nat → Int} : ∀ {n : Nat}, 0 < (lookG g n).2 → ∃ i : Nat, i < n ∧ (lookG g n).1 = (i : Int) ∧ g i = (lookG g n).2
  | 0, h => by simp [lookG] at h
  | n + 1, h => by
    rw [lookG] at h ⊢
    by_cases c : g n > (lookG g n).2
    · rw [if_pos c]; exact ⟨n, by omega, rfl, rfl⟩
    · rw [if_neg c] at h ⊢
      obtain ⟨i, h1, h2, h3⟩ := lookG_at h
      exact ⟨i, by omega, h2, h3⟩
theorem gain_eq {b : Bl} {s : Sw} (h : newErr b = 0) {i : Nat} (hi : i < b.bottom.length) : ((mostI (sureB (soundedB b i)) s).length : Int) = (mostI (sureB b) s).length + gainI b s i := by
  unfold gainI
  rw [sounded_sure h hi]
  omega
end Go.Proofs.Ytfaekiaegebmbaa.Ab.T01
