/- Plain: a bill whose number cannot be read tells it. -/
import Derived.Test.YtlckjjaipbiidaaZG9
namespace Go.Proofs.Ytlckjjaipbiidaa.Ab.T12
open Go Go.RowKit
set_option linter.unusedVariables false
set_option linter.unusedSimpArgs false
set_option maxRecDepth 100000
theorem minS_eq {p : Int → Prop} {m : Int} (h1 : p m) (h2 : ∀ y, p y → m ≤ y) : minS p = m := by
  have he : ∃ x, p x ∧ ∀ y, p y → x ≤ y := ⟨m, h1, h2⟩
  have h3 : p (minS p) ∧ ∀ y, p y → minS p ≤ y := by unfold minS; rw [dif_pos he]; exact Classical.choose_spec he
  have := h2 _ h3.1
  have := h3.2 _ h1
  omega
theorem maxS_eq {p : Int → Prop} {m : Int} (h1 : p m) (h2 : ∀ y, p y → y ≤ m) : maxS p = m := by
  have he : ∃ x, p x ∧ ∀ y, p y → y ≤ x := ⟨m, h1, h2⟩
  have h3 : p (maxS p) ∧ ∀ y, p y → y ≤ maxS p := by unfold maxS; rw [dif_pos he]; exact Classical.choose_spec he
  have := h2 _ h3.1
  have := h3.2 _ h1
  omega
def bN (n p : Nat) : Bl := ⟨[⟨-1, p, (n : Int) * p⟩], (n : Int) * p⟩
section
variable {n p : Nat} (hn : n ≤ 16) (hp : 1 ≤ p ∧ p ≤ 50)
include hn hp
theorem np_bd : 0 ≤ (n : Int) * p ∧ (n : Int) * p ≤ 800 :=
  ⟨Int.mul_nonneg (by omega) (by omega), Int.le_trans (Int.mul_le_mul (show (n : Int) ≤ 16 by omega) (show (p : Int) ≤ 50 by omega) (by omega) (by omega)) (by omega)⟩
omit hn hp in
theorem fit_N : fitL (nth (bN n p).lines 0) (cand n p) = true := by
  simp [fitL, fitsB, cand, bN, nth]
theorem can_N (z : Int) : canS (bN n p) 0 0 z ↔ z = n := by
  have hb := np_bd hn hp
  constructor
  · rintro ⟨x, hx, _, rfl⟩
    obtain ⟨m, e, hm, he, rfl, hf⟩ := mem_allL.1 hx
    simp only [fitL, fitsB, cand, bN, nth, List.getD_cons_zero, Bool.and_eq_true, Bool.or_eq_true, beq_iff_eq] at hf
    have h1 : (p : Int) = e := hf.2.1.resolve_left (by omega)
    have h2 : (n : Int) * p = (m : Int) * e := hf.2.2.resolve_left (by omega)
    rw [← h1] at h2
    have h3 : (n : Int) = m := Int.eq_of_mul_eq_mul_right (by omega) h2
    show (m : Int) = n
    omega
  · rintro rfl
    refine ⟨cand n p, mem_allL.2 ⟨n, p, by omega, by omega, rfl, fit_N⟩, ⟨⟨0, ?_⟩, .inr ?_⟩, rfl⟩
    · show (0 : Int) = 0
      rfl
    · show (n : Int) * p - (n : Int) * p = 0
      omega
theorem fill_N : fillErr (bN n p) = 0 ∧ fillR (bN n p) = [((n : Int), (n : Int))] := by
  have hb := np_bd hn hp
  have h1 : billErr (bN n p) = 0 := by
    have e1 : badLn ⟨-1, (p : Int), (n : Int) * p⟩ = false := by
      unfold badLn
      simp [betw]
      omega
    have e2 : betw (-1) 12500 [(n : Int) * p] = true := by simp [betw]; omega
    unfold billErr bN
    simp [e1, e2]
  have h2 : blotL (bN n p) = [(0, 1)] := by
    have x1 : ((p : Int) == -1) = false := by rw [beq_eq_false_iff_ne]; omega
    have x2 : ((n : Int) * p == -1) = false := by rw [beq_eq_false_iff_ne]; omega
    unfold blotL blotT
    simp [bN, List.range_succ, numAt, fldL, nth, x1, x2, markAt]
  have h3 : posP (bN n p) := .inr ⟨0, (n : Int) * p, rfl, ⟨cand n p, mem_allL.2 ⟨n, p, by omega, by omega, rfl, fit_N⟩, rfl⟩, by show (n : Int) * p = 0 + (n : Int) * p; omega⟩
  have e : fillErr (bN n p) = 0 := by unfold fillErr; rw [if_neg (by rw [h1]; simp), if_neg (by rw [h2]; decide), isPos_iff.2 h3]; rfl
  refine ⟨e, ?_⟩
  unfold fillR
  rw [if_pos e]
  unfold fillL fillT
  rw [h2]
  have v0 : valS (bN n p) (0, 1) = canS (bN n p) 0 0 := rfl
  have m0 : minS (canS (bN n p) 0 0) = n := minS_eq ((can_N hn hp n).2 rfl) fun y hy => by rw [(can_N hn hp y).1 hy]; exact Int.le_refl _
  have x0 : maxS (canS (bN n p) 0 0) = n := maxS_eq ((can_N hn hp n).2 rfl) fun y hy => by rw [(can_N hn hp y).1 hy]; exact Int.le_refl _
  show [spanP (valS (bN n p) (0, 1))] = _
  rw [v0]
  unfold spanP
  rw [m0, x0]
end
end Go.Proofs.Ytlckjjaipbiidaa.Ab.T12
