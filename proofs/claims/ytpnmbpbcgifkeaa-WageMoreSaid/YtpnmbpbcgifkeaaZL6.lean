/- More pays no less: plain. -/
import Derived.Test.YtpnmbpbcgifkeaaZL5
import Derived.Test.YtpnmbpbcgifkeaaZJ1
namespace Go.Proofs.Ytpnmbpbcgifkeaa.Ab.T12
open Go Go.RowKit
set_option linter.unusedVariables false
set_option linter.unusedSimpArgs false
set_option maxRecDepth 100000
theorem mem_hitR {r : Rate} {w b : Int} {d p : Nat} {x : Nat × Nat} : x ∈ hitR r w b d p ↔ x.1 = d ∧ x.2 < p ∧ wageOf r (x.1 : Int) (x.2 : Int) b = w := by
  unfold hitR
  constructor
  · intro h
    obtain ⟨q, hq, rfl⟩ := List.mem_map.1 h
    obtain ⟨h1, h2⟩ := List.mem_filter.1 hq
    exact ⟨rfl, List.mem_range.1 h1, by simpa using h2⟩
  · obtain ⟨c, q⟩ := x
    rintro ⟨h1, h2, h3⟩
    simp only at h1 h2 h3
    subst h1
    exact List.mem_map.2 ⟨q, List.mem_filter.2 ⟨List.mem_range.2 h2, by simpa using h3⟩, rfl⟩
theorem mem_hitT {r : Rate} {w b : Int} {d : Nat} {x : Nat × Nat} : x ∈ hitT r w b d ↔ x.1 < d ∧ x.2 < 12 ∧ wageOf r (x.1 : Int) (x.2 : Int) b = w := by
  unfold hitT
  rw [List.mem_flatMap]
  constructor
  · rintro ⟨c, hc, h⟩
    have := mem_hitR.1 h
    have := List.mem_range.1 hc
    exact ⟨by omega, by omega, (mem_hitR.1 h).2.2⟩
  · rintro ⟨h1, h2, h3⟩
    exact ⟨x.1, List.mem_range.2 h1, mem_hitR.2 ⟨rfl, h2, h3⟩⟩
theorem hitT_pre (r : Rate) (w b : Int) {d e : Nat} (h : d ≤ e) : ∃ l, hitT r w b e = hitT r w b d ++ l := by
  induction e with
  | zero => obtain rfl : d = 0 := by omega
            exact ⟨[], by simp⟩
  | succ e ih =>
    by_cases c : d ≤ e
    · obtain ⟨l, hl⟩ := ih c
      exact ⟨l ++ _, by rw [hitT_succ, hl, List.append_assoc]⟩
    · obtain rfl : d = e + 1 := by omega
      exact ⟨[], by simp⟩
theorem hitR_pre (r : Rate) (w b : Int) (d : Nat) {p q : Nat} (h : p ≤ q) : ∃ l, hitR r w b d q = hitR r w b d p ++ l := by
  induction q with
  | zero => obtain rfl : p = 0 := by omega
            exact ⟨[], by simp⟩
  | succ q ih =>
    by_cases c : p ≤ q
    · obtain ⟨l, hl⟩ := ih c
      exact ⟨l ++ _, by rw [hitR_succ, hl, List.append_assoc]⟩
    · obtain rfl : p = q + 1 := by omega
      exact ⟨[], by simp⟩
/-- The first of all works that pay just so much. -/
theorem hits_first {r : Rate} {w b : Int} {x : Nat × Nat} {l : List (Nat × Nat)} (h : hits r w b = x :: l) : x.1 < 1001 ∧ x.2 < 12 ∧ wageOf r (x.1 : Int) (x.2 : Int) b = w ∧ ∀ d p : Nat, d < 1001 → p < 12 → wageOf r (d : Int) (p : Int) b = w → x.1 < d ∨ (x.1 = d ∧ x.2 ≤ p) := by
  obtain ⟨h1, h2, h3⟩ := mem_hitT.1 (show x ∈ hitT r w b 1001 by show x ∈ hits r w b; rw [h]; simp)
  refine ⟨h1, h2, h3, fun d p hd hp hw => ?_⟩
  obtain ⟨l1, e1⟩ := hitT_pre r w b (show x.1 + 1 ≤ 1001 by omega)
  obtain ⟨l2, e2⟩ := hitR_pre r w b x.1 (show x.2 ≤ 12 by omega)
  rw [hitT_succ r w b x.1, e2] at e1
  have e3 : x :: l = hitT r w b x.1 ++ (hitR r w b x.1 x.2 ++ l2) ++ l1 := by rw [← h]; exact e1
  refine Classical.byContradiction fun hn => ?_
  -- a work before the first
  by_cases c : d < x.1
  · have hm : (d, p) ∈ hitT r w b x.1 := mem_hitT.2 ⟨c, hp, hw⟩
    obtain ⟨y, l3, hy⟩ := List.exists_cons_of_ne_nil (List.ne_nil_of_mem hm)
    rw [hy] at e3
    have : x = y := by simpa using (List.cons.inj e3).1
    have h4 := (mem_hitT.1 (show y ∈ hitT r w b x.1 by rw [hy]; simp)).1
    rw [this] at h4
    omega
  · have hm : (d, p) ∈ hitR r w b x.1 x.2 := mem_hitR.2 ⟨by simp only; omega, by simp only; omega, hw⟩
    have ht : hitT r w b x.1 = [] := Classical.byContradiction fun hc => by
      obtain ⟨y, l3, hy⟩ := List.exists_cons_of_ne_nil hc
      rw [hy] at e3
      have : x = y := by simpa using (List.cons.inj e3).1
      have h4 := (mem_hitT.1 (show y ∈ hitT r w b x.1 by rw [hy]; simp)).1
      rw [this] at h4
      omega
    obtain ⟨y, l3, hy⟩ := List.exists_cons_of_ne_nil (List.ne_nil_of_mem hm)
    rw [ht, hy, List.nil_append] at e3
    have : x = y := by simpa using (List.cons.inj e3).1
    have h4 := (mem_hitR.1 (show y ∈ hitR r w b x.1 x.2 by rw [hy]; simp)).2.1
    rw [this] at h4
    omega
theorem wage_more {r : Rate} (hok : r.Ok) (d p b : Int) : wageOf r d p b ≤ wageOf r (d + 1) p b := by
  have := doz_mono hok (m := d) (n := d + 1) (by omega)
  unfold doz at this
  unfold wageOf
  omega
theorem wage_piece {r : Rate} (hok : r.Ok) (d p b : Int) : wageOf r d p b ≤ wageOf r d (p + 1) b := by
  have := hok.piece
  unfold wageOf
  rw [Int.add_mul]
  omega
theorem wage_less {r : Rate} (hok : r.Ok) (d p b : Int) : wageOf r d p (b + 1) ≤ wageOf r d p b := by
  have := hok.fine
  unfold wageOf
  rw [Int.add_mul]
  omega
theorem pay_ok {r : Rate} (h : openErr r = 0) {d p b : Int} (hd : 0 ≤ d ∧ d ≤ 1000) (hp : 0 ≤ p ∧ p ≤ 11) (hb : 0 ≤ b ∧ b ≤ 1000) : (pay r d p b).1 = wageOf r d p b ∧ (pay r d p b).2 = 0 := by
  have e : pay r d p b = (wageOf r d p b, 0) := by
    unfold pay
    rw [if_neg (by rw [h]; simp), if_pos (by simp [betw]; omega)]
  rw [e]
  exact ⟨rfl, rfl⟩
end Go.Proofs.Ytpnmbpbcgifkeaa.Ab.T12
