/- One law for every change of the memory: what is touched is a live object's, or new. -/
import Derived.Test.YtfaekiaegebmbaaAbC
namespace Go.Proofs.Ytfaekiaegebmbaa.Ab
open Go Go.RowKit
set_option linter.unusedSimpArgs false
set_option linter.unusedVariables false
section
variable {m m' : Mem} {w w' : World} {ob ob' : Nat → Option Obj}

theorem ObAt.blk_lt {n : Nat} {v : Value} {o : Obj} {b : Nat} (h : ObAt w m n v o) (hb : foot m n v o b) : b < w.heap.size := by
  cases o with
  | box t cells =>
    obtain ⟨g, cs, rfl, hh, _⟩ := h
    simp only [foot, blk, Option.some.injEq] at hb
    subst hb
    exact (Array.getElem?_eq_some_iff.mp hh).1
  | row t sz rows fz =>
    obtain ⟨_, ⟨rfl, _⟩ | ⟨g, cap, cur, rfl, hh, _⟩⟩ := h
    · simp [foot, blk] at hb
    · simp only [foot, blk, Option.some.injEq] at hb
      subst hb
      exact (Array.getElem?_eq_some_iff.mp hh).1
  | opq Φ => exact (h.2.1 b hb).1
  | map q f =>
    obtain ⟨g, es, clock, rfl, hh, _⟩ := h
    simp only [foot, blk, Option.some.injEq] at hb
    subst hb
    exact (Array.getElem?_eq_some_iff.mp hh).1

theorem ObAt.not_I {n : Nat} {v : Value} {o : Obj} {b : Nat} (h : ObAt w m n v o) (hl : o.live = true) (hb : foot m n v o b) : ¬ m.I b := by
  cases o with
  | box t cells =>
    obtain ⟨g, cs, rfl, hh, _, _, _, hn⟩ := h
    simp only [foot, blk, Option.some.injEq] at hb
    subst hb
    exact hn
  | row t sz rows fz =>
    obtain ⟨_, ⟨rfl, _⟩ | ⟨g, cap, cur, rfl, hh, _, _, _, _, _, _, hn⟩⟩ := h
    · simp [foot, blk] at hb
    · simp only [foot, blk, Option.some.injEq] at hb
      subst hb
      exact hn (by simpa [Obj.live] using hl)
  | opq Φ => exact (h.2.1 b hb).2
  | map q f =>
    obtain ⟨g, es, clock, rfl, hh, _, hn, _⟩ := h
    simp only [foot, blk, Option.some.injEq] at hb
    subst hb
    exact hn

theorem ObAt.is_I {n : Nat} {v : Value} {o : Obj} {b : Nat} (h : ObAt w m n v o) (hl : o.live = false) (hb : foot m n v o b) : m.I b := by
  cases o with
  | box t cells => simp [Obj.live] at hl
  | row t sz rows fz =>
    obtain ⟨_, ⟨rfl, _⟩ | ⟨g, cap, cur, rfl, hh, _, _, _, _, _, hi, _⟩⟩ := h
    · simp [foot, blk] at hb
    · simp only [foot, blk, Option.some.injEq] at hb
      subst hb
      exact hi (by simpa [Obj.live] using hl)
  | opq Φ => simp [Obj.live] at hl
  | map q f => simp [Obj.live] at hl

theorem own.not_I (hR : MR m w ob) {b : Nat} (h : own m ob b) : ¬ m.I b := by
  obtain ⟨n, o, x, ho, hl, hx, hb⟩ := h
  obtain ⟨v, hv, hat⟩ := hR.obs n o ho
  rw [hx] at hv
  cases hv
  exact hat.not_I hl hb

theorem own.lt (hR : MR m w ob) {b : Nat} (h : own m ob b) : b < w.heap.size := by
  obtain ⟨n, o, x, ho, hl, hx, hb⟩ := h
  obtain ⟨v, hv, hat⟩ := hR.obs n o ho
  rw [hx] at hv
  cases hv
  exact hat.blk_lt hb

/-- What has been done to the memory: the blocks T of the objects S may have turned; the objects D are new, or stand as said. -/
structure Chg (m : Mem) (w : World) (ob : Nat → Option Obj) (S T : Nat → Prop) (D : Nat → Prop) (m' : Mem) (w' : World) (ob' : Nat → Option Obj) : Prop where
  touch : ∀ b, T b → ∃ n o x, S n ∧ ob n = some o ∧ o.live = true ∧ m.β n = some x ∧ foot m n x o b
  heap : ∀ b, b < w.heap.size → ¬ T b → w'.heap[b]? = w.heap[b]?
  size : w.heap.size ≤ w'.heap.size
  os : w'.os = w.os
  tape : w'.tape = w.tape
  output : w'.output = w.output
  sub : ∀ b, m.I b → m'.I b
  grow : ∀ b, m'.I b → m.I b ∨ T b ∨ w.heap.size ≤ b
  imm : ∀ b, m'.I b → b < w'.heap.size
  beta : ∀ n x, m.β n = some x → m'.β n = some x
  phi : ∀ n, ¬ S n → ¬ D n → m'.φ n = m.φ n
  obs : ∀ n o, ob' n = some o → (ob n = some o ∧ ¬ S n ∧ ¬ D n) ∨ (D n ∧ ∃ v, m'.β n = some v ∧ ObAt w' m' n v o ∧ ∀ b, o.live = true → foot m' n v o b → T b ∨ w.heap.size ≤ b)
  apart : ∀ (n n' : Nat) (o o' : Obj) (x x' : Value) (b : Nat), D n → D n' → ob' n = some o → ob' n' = some o' → o.live = true → o'.live = true → n ≠ n' → m'.β n = some x → m'.β n' = some x' → foot m' n x o b → ¬ foot m' n' x' o' b

variable {S T D : Nat → Prop}

theorem foot_eq {m m' : Mem} {n : Nat} {x : Value} {o : Obj} {b : Nat} (h : m'.φ n = m.φ n) : foot m' n x o b ↔ foot m n x o b := by
  cases o with
  | opq Φ => simp only [foot, h]
  | _ => exact Iff.rfl

theorem Chg.ext (h : Chg m w ob S T D m' w' ob') (hR : MR m w ob) : Ext w m ob w' m' ob' := by
  have tow : ∀ b, T b → own m ob b := fun b hb => by
    obtain ⟨n, o, x, _, ho, hl, hx, hb'⟩ := h.touch b hb
    exact ⟨n, o, x, ho, hl, hx, hb'⟩
  refine ⟨h.sub, fun b hb => ?_, fun b hb hn => h.heap b hb fun ht => hn (tow b ht), fun b hb => h.heap b (hR.imm b hb) fun ht => own.not_I hR (tow b ht) hb, h.beta, fun b hb => ?_, h.os, h.tape, h.output, h.size⟩
  · rcases h.grow b hb with h1 | h1 | h1
    · exact .inl h1
    · exact .inr (.inl (tow b h1))
    · exact .inr (.inr h1)
  · obtain ⟨n, o, x, ho, hl, hx, hb'⟩ := hb
    rcases h.obs n o ho with ⟨h1, hS, hD⟩ | ⟨_, v, hv, hat, hT⟩
    · obtain ⟨v, hv, _⟩ := hR.obs n o h1
      have := h.beta n v hv
      rw [this] at hx
      cases hx
      exact .inl ⟨n, o, _, h1, hl, hv, (foot_eq (h.phi n hS hD)).1 hb'⟩
    · rw [hv] at hx
      cases hx
      rcases hT b hl hb' with h2 | h2
      · exact .inl (tow b h2)
      · exact .inr h2

theorem Chg.mr (h : Chg m w ob S T D m' w' ob') (hR : MR m w ob) : MR m' w' ob' := by
  have e := h.ext hR
  have old : ∀ n o, ob n = some o → ¬ S n → ∃ v, m.β n = some v ∧ m'.β n = some v ∧ ObAt w m n v o ∧ ∀ b, foot m n v o b → ¬ T b ∧ b < w.heap.size := fun n o ho hS => by
    obtain ⟨v, hv, hat⟩ := hR.obs n o ho
    refine ⟨v, hv, h.beta n v hv, hat, fun b hb => ⟨fun ht => ?_, hat.blk_lt hb⟩⟩
    obtain ⟨n', o', x', hS', ho', hl', hx', hb'⟩ := h.touch b ht
    have hne : n' ≠ n := fun e => hS (e ▸ hS')
    cases hl : o.live with
    | true => exact hR.apart n' n o' o x' v b ho' ho hl' hl hne hx' hv hb' hb
    | false =>
      obtain ⟨v', hv', hat'⟩ := hR.obs n' o' ho'
      rw [hx'] at hv'
      cases hv'
      exact hat'.not_I hl' hb' (hat.is_I hl hb)
  refine ⟨h.imm, fun n o ho => ?_, fun n n' o o' x x' b ho ho' hl hl' hne hx hx' hb hb' => ?_⟩
  · rcases h.obs n o ho with ⟨h1, hS, hD⟩ | ⟨_, v, hv, hat, _⟩
    · obtain ⟨v, hv, hv', hat, hb⟩ := old n o h1 hS
      refine ⟨v, hv', hat.of_ext e (h.phi n hS hD) (fun b hbb => h.heap b (hb b hbb).2 (hb b hbb).1) (fun b hbb hl hI hI' => ?_)⟩
      rcases h.grow b hI' with h2 | h2 | h2
      · exact hI h2
      · exact (hb b hbb).1 h2
      · have := (hb b hbb).2; omega
    · exact ⟨v, hv, hat⟩
  · rcases h.obs n o ho with ⟨h1, hS, hD⟩ | ⟨hD, v, hv, hat, hT⟩
    · obtain ⟨v, hv, hv', hat, hbb⟩ := old n o h1 hS
      rw [hv'] at hx
      cases hx
      have hb0 := (foot_eq (h.phi n hS hD)).1 hb
      have hB := hbb b hb0
      rcases h.obs n' o' ho' with ⟨h2, hS2, hD2⟩ | ⟨hD2, u, hu, hat2, hT2⟩
      · obtain ⟨u, hu, hu', hat2, hbb2⟩ := old n' o' h2 hS2
        rw [hu'] at hx'
        cases hx'
        exact hR.apart n n' o o' _ _ b h1 h2 hl hl' hne hv hu hb0 ((foot_eq (h.phi n' hS2 hD2)).1 hb')
      · rw [hu] at hx'
        cases hx'
        rcases hT2 b hl' hb' with h3 | h3
        · exact hB.1 h3
        · omega
    · rw [hv] at hx
      cases hx
      rcases h.obs n' o' ho' with ⟨h2, hS2, hD2⟩ | ⟨hD2, u, hu, hat2, hT2⟩
      · obtain ⟨u, hu, hu', hat2, hbb2⟩ := old n' o' h2 hS2
        rw [hu'] at hx'
        cases hx'
        have hB := hbb2 b ((foot_eq (h.phi n' hS2 hD2)).1 hb')
        rcases hT b hl hb with h3 | h3
        · exact hB.1 h3
        · omega
      · exact h.apart n n' o o' _ x' b hD hD2 ho ho' hl hl' hne hv hx' hb hb'

end
end Go.Proofs.Ytfaekiaegebmbaa.Ab
