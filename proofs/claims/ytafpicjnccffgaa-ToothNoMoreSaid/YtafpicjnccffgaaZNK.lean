/- ToothNoMore, plain: counting the sure sticks; a crack less; a narrower saw; the widest sticks. -/
import Derived.Test.YtafpicjnccffgaaZNH
import Derived.Test.YtafpicjnccffgaaZNG
namespace Go.Proofs.Ytafpicjnccffgaa.Ab.T01
open Go Go.RowKit
set_option linter.unusedSimpArgs false
set_option linter.unusedVariables false
def withoutB (b : Bl) (i : Nat) : Bl := { b with cracks := b.cracks.take i ++ b.cracks.drop (i + 1) }
/-- Without a crack a blade is a blade, with the same edges. -/
theorem without_new {b : Bl} (hN : newErr b = 0) (i : Nat) : newErr (withoutB b i) = 0 ∧ newLow (withoutB b i) = newLow b ∧ newTop (withoutB b i) = newTop b ∧ sureB (withoutB b i) = dropV (sureB b) i := by
  have hf : formErr b = 0 := by
    unfold newErr at hN
    split at hN
    · rename_i h1; exact absurd hN h1
    · rename_i h1; simpa using h1
  obtain ⟨f1, f2, f3, f4, f5, f6, f7⟩ := form_ok hf
  have hfe : formErr (withoutB b i) = 0 := by
    unfold formErr withoutB
    simp only
    rw [if_neg, if_neg, if_neg, if_neg]
    · have : edgesOk ⟨b.bottom, b.top, b.bend, b.cracks.take i ++ b.cracks.drop (i + 1)⟩ = true := f6
      rw [this]; simp
    · rintro (h | h)
      · have : betw 0 300 [b.bend] = true := by simp [betw]; omega
        rw [this] at h; cases h
      · obtain ⟨c, hc, hb⟩ := List.any_eq_true.1 h
        have := List.any_eq_false.1 f7 c (by
          rcases List.mem_append.1 hc with h | h
          · exact List.mem_of_mem_take h
          · exact List.mem_of_mem_drop h)
        exact this hb
    · simp only [List.length_append, List.length_take, List.length_drop]
      omega
    · rintro (h | h)
      · exact h f1
      · have : betw 1 30 [(b.bottom.length : Int)] = true := by simp [betw]; omega
        rw [this] at h; cases h
  have hE : newErr (withoutB b i) = newErr b := by
    have a1 : newErr (withoutB b i) = if (bentS b.bend b.bottom).isNone ∨ (bentS b.bend b.top).isNone then 9 else 0 := by
      show (if formErr (withoutB b i) ≠ 0 then formErr (withoutB b i) else if (bentS b.bend b.bottom).isNone ∨ (bentS b.bend b.top).isNone then 9 else 0) = _
      rw [if_neg (by rw [hfe]; simp)]
    have a2 : newErr b = if (bentS b.bend b.bottom).isNone ∨ (bentS b.bend b.top).isNone then 9 else 0 := by
      unfold newErr
      rw [if_neg (by rw [hf]; simp)]
    rw [a1, a2]
  have hE0 : newErr (withoutB b i) = 0 := by rw [hE, hN]
  have e1 : newLow (withoutB b i) = newLow b := by unfold newLow; rw [if_pos hE0, if_pos hN]; rfl
  have e2 : newTop (withoutB b i) = newTop b := by unfold newTop; rw [if_pos hE0, if_pos hN]; rfl
  refine ⟨hE0, e1, e2, ?_⟩
  unfold sureB dropV
  rw [e1, e2]
  unfold sureV withoutB
  simp only [List.map_append, List.map_take, List.map_drop]
theorem costsL_nth {b : Bl} {s : Sw} (hO : openErr b s = 0) {i : Nat} (hi : i < b.cracks.length) : nth (costsL b s) i = costsI (sureB b) s i := by
  unfold costsL
  rw [if_pos hO, nth_range hi]
theorem costsL_len {b : Bl} {s : Sw} (hO : openErr b s = 0) : (costsL b s).length = b.cracks.length := by
  unfold costsL
  rw [if_pos hO, List.length_map, List.length_range]

/-- Any part of what is sawn that is sure: no more than the greatest layout. -/
theorem sure_few {x : Tk} (hx : x.Ok) (w : List Int) (n : Nat) : (((sawT x w).take n).filter (soundI (sureB (blT x)) (swT x))).length ≤ (mostI (sureB (blT x)) (swT x)).length := by
  obtain ⟨h1, h2⟩ := sawT_ok hx w
  have hb := sure_real hx
  refine chain_most (sureT_ok hx) (saw_swT hx) ((h1.sublist (List.take_sublist n _)).filter _) (fun p hp => ?_) (fun p hp => ?_)
  · obtain ⟨hp, _⟩ := List.mem_filter.1 hp
    have := (h2 p (List.mem_of_mem_take hp)).1
    exact ⟨this.x0, by rw [← hb.len]; exact this.x1, this.y0, this.y1⟩
  · exact (List.mem_filter.1 hp).2
theorem drop_bet (v : Vw) (i : Nat) : Bet v (dropV v i) := ⟨rfl, fun _ _ => Int.le_refl _, fun _ _ => Int.le_refl _, fun t ht => ⟨t, by
  have ht : t ∈ v.spoils.take i ++ v.spoils.drop (i + 1) := ht
  rcases List.mem_append.1 ht with h | h
  · exact List.mem_of_mem_take h
  · exact List.mem_of_mem_drop h, Int.le_refl _, Int.le_refl _, Int.le_refl _, Int.le_refl _⟩⟩
theorem drop_ok {v : Vw} (hv : v.Ok) (i : Nat) : (dropV v i).Ok := by
  have hs : ∀ t ∈ (dropV v i).spoils, t ∈ v.spoils := fun t ht => by
    have ht : t ∈ v.spoils.take i ++ v.spoils.drop (i + 1) := ht
    rcases List.mem_append.1 ht with h | h
    · exact List.mem_of_mem_take h
    · exact List.mem_of_mem_drop h
  refine ⟨hv.bottom, hv.top, fun t ht => hv.spoils t (hs t ht), hv.len, hv.le, ?_⟩
  have := hv.sle
  show (v.spoils.take i ++ v.spoils.drop (i + 1)).length ≤ 100
  simp only [List.length_append, List.length_take, List.length_drop]
  omega
theorem costs_nn {v : Vw} {s : Sw} (hv : v.Ok) (hs : sawOk s = true) (i : Nat) : 0 ≤ costsI v s i := by
  obtain ⟨h1, h2, h3⟩ := most_chain hv hs
  have hb := drop_bet v i
  have := chain_most (drop_ok hv i) hs h1 (fun p hp => ⟨(h2 p hp).x0, by rw [hb.len]; exact (h2 p hp).x1, (h2 p hp).y0, (h2 p hp).y1⟩) fun p hp => sound_bet hb (h2 p hp) (h3 p hp)
  unfold costsI
  omega
/-- A saw that needs less. -/
theorem thin_more {v : Vw} {s t : Sw} (hv : v.Ok) (hs : sawOk s = true) (ht : sawOk t = true) (hl : t.long = s.long) (ha : t.across = s.across) (hw : t.wide ≤ s.wide) (hk : t.kerf ≤ s.kerf) : (mostI v s).length ≤ (mostI v t).length := by
  obtain ⟨h1, h2, h3⟩ := most_chain hv hs
  refine chain_most hv ht (h1.imp fun {p q} h => ?_) (fun p hp => ⟨(h2 p hp).x0, by rw [hl]; exact (h2 p hp).x1, (h2 p hp).y0, (h2 p hp).y1⟩) fun p hp => ?_
  · unfold After at h ⊢
    rw [hl, ha]
    omega
  · have := h3 p hp
    unfold soundI at this ⊢
    rw [hl]
    exact refSound_less hw this
theorem widR_facts (e : Int → Bool) : ∀ n : Nat, 0 ≤ widR e n ∧ widR e n ≤ n ∧ (0 < widR e n → e (widR e n) = true) ∧ ∀ k : Int, widR e n < k → k ≤ n → e k = false
  | 0 => ⟨Int.le_refl _, Int.le_refl _, fun h => absurd h (by simp [widR]), fun k h1 h2 => by simp only [widR] at h1; omega⟩
  | n + 1 => by
    obtain ⟨a, b, c, d⟩ := widR_facts e n
    rw [widR]
    by_cases h : e ((n + 1 : Nat) : Int) = true
    · rw [if_pos h]
      exact ⟨by omega, by omega, fun _ => h, fun k h1 h2 => by omega⟩
    · rw [if_neg h]
      refine ⟨a, by omega, c, fun k h1 h2 => ?_⟩
      by_cases hk : k = ((n + 1 : Nat) : Int)
      · rw [hk]; simpa using h
      · exact d k h1 (by omega)
theorem widest_tk {x : Tk} (hx : x.Ok) {n : Int} (hn : 1 ≤ n ∧ n ≤ 30) : ∃ w : Int, 0 ≤ w ∧ w ≤ 300 ∧ widestR (blT x) (swT x) n = (w, if w = 0 then 7 else 0) ∧ (0 < w → n ≤ (mostI (sureB (blT x)) (wideS (swT x) w)).length) ∧ ∀ k : Int, w < k → k ≤ 300 → ((mostI (sureB (blT x)) (wideS (swT x) k)).length : Int) < n := by
  obtain ⟨a, b, c, d⟩ := widR_facts (enoughB (sureB (blT x)) (swT x) n) 300
  have hw := wide_law (sticks := n) (sureT_ok hx) (saw_swT hx) 300 0 300 (by omega) (by omega) (by omega) (by omega) (.inl rfl) fun k h1 h2 => by omega
  refine ⟨_, a, by omega, ?_, fun h => ?_, fun k h1 h2 => ?_⟩
  · unfold widestR
    rw [if_neg (by rw [open_tk hx]; simp), if_pos (by simp [betw]; omega), hw]
    split <;> simp_all
  · exact of_decide_eq_true (p := ((mostI (sureB (blT x)) (wideS (swT x) (widR (enoughB (sureB (blT x)) (swT x) n) 300))).length : Int) ≥ n) (c h)
  · have := d k h1 h2
    unfold enoughB at this
    simp only [decide_eq_false_iff_not] at this
    omega
end Go.Proofs.Ytafpicjnccffgaa.Ab.T01
