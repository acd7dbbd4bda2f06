/- Code: what must be shown is enough. -/
import Derived.Test.YtfaekiaegebmbaaAbQ
namespace Go.Proofs.Ytfaekiaegebmbaa.Ab
open Go Go.RowKit
set_option linter.unusedSimpArgs false
set_option linter.unusedVariables false

section
variable {P : Program} {eq : TypeId → Option (List Value)}

theorem vc_sound : ∀ (c : Code) (k : Nat) (as : AS) (Q : Exit → Nat → AS → Prop), drawsOk c = true → vc P eq c k as Q → ∀ {ro : Option Nat} {n s : Nat} {m : Mem} {w : World} {a : Act}, Rel m w as a → Fr k m → Aux s ro w m as.ob a.defers →
    ∀ {Q' : Exit → Act → World → Prop}, (∀ e k' as' m' w' a', Q e k' as' → Lands s ro m w as.ob k' as' m' w' a' → Q' e a' w') → c.wpIn (W ro) n P Q' a w := by
  intro c
  induction c with
  | skip => exact fun k as Q _ h ro n s m w a hR hk hd Q' hQ => wpIn_skip (hQ _ _ _ _ _ _ h ⟨hR, hk, Ext.refl _ _ _, hd⟩)
  | region id ops draw =>
    intro k as Q hok h ro n s m w a hR hk hd Q' hQ
    cases draw with
    | false =>
      refine wpIn_region ?_
      rw [show List.range ops.size = List.range' 0 ops.toList.length by rw [List.range_eq_range', Array.length_toList]]
      refine vcOps_sound (eq := eq) ops.toList 0 k as rfl h m w a hR hk hd fun as' m' w' a' hK hL => ?_
      rw [Array.length_toList] at hL
      exact hQ _ _ _ _ _ _ hK hL
    | true => exact draw_sound hok h hR hk hd fun as' m' w' a' hK hL => hQ _ _ _ _ _ _ hK hL
  | seq c d ihc ihd =>
    intro k as Q hok h ro n s m w a hR hk hd Q' hQ
    simp only [drawsOk, Bool.and_eq_true] at hok
    refine wpIn_seq (ihc k as _ hok.1 h hR hk hd fun e k' as' m' w' a' hq hL => ?_)
    cases e with
    | normal => exact ihd k' as' Q hok.2 hq hL.1 hL.2.1 hL.2.2.2 fun e k2 as2 m2 w2 a2 hq2 hL2 => hQ _ _ _ _ _ _ hq2 (hL.trans hL2)
    | _ => exact hQ _ _ _ _ _ _ hq hL
  | cond x c d ihc ihd =>
    intro k as Q hok h ro n s m w a hR hk hd Q' hQ
    simp only [drawsOk, Bool.and_eq_true] at hok
    simp only [vc, onCond] at h
    split at h
    · rename_i b hb
      have hx := ev_rep hR x
      rw [hb] at hx
      exact wpIn_cond_split (rep_v hx) (fun hbt => ihc k as Q hok.1 (h.1 hbt) hR hk hd hQ) (fun hbt => ihd k as Q hok.2 (h.2 hbt) hR hk hd hQ)
    · rename_i hb
      have hx := ev_rep hR x
      rw [hb] at hx
      generalize he : a.eval x = y at hx
      cases hx with
      | bl _ _ b h1 h2 =>
      exact wpIn_cond_split he (fun hbt => ihc k as Q hok.1 ((h.1 (h1 hbt)).1 trivial) hR hk hd hQ) (fun hbt => ihd k as Q hok.2 ((h.2 (h2 hbt)).2 trivial) hR hk hd hQ)
    · exact h.elim
  | block id c ih =>
    intro k as Q hok h ro n s m w a hR hk hd Q' hQ
    refine wpIn_block (ih k as _ hok h hR hk hd fun e k' as' m' w' a' hq hL => ?_)
    cases e with
    | exit j =>
      simp only at hq
      by_cases hj : j = id
      · rw [if_pos hj] at hq
        simp only [Exit.inBlock, hj, if_true]
        exact hQ _ _ _ _ _ _ hq hL
      · rw [if_neg hj] at hq
        simp only [Exit.inBlock, hj, if_false]
        exact hQ _ _ _ _ _ _ hq hL
    | _ => exact hQ _ _ _ _ _ _ hq hL
  | loop c ih =>
    intro k as Q hok h ro n s m w a hR hk hd Q' hQ
    obtain ⟨α, J, μ, x0, ⟨σ, h0⟩, hround⟩ := h
    -- the invariant
    let I : α → Act → World → Prop := fun x a' w' => ∃ m', Rel m' w' ((J x).as as.N) a' ∧ Fr (k + 32) m' ∧ Ext w m as.ob w' m' ((J x).as as.N).ob ∧ Aux s ro w' m' ((J x).as as.N).ob a'.defers
    have ent : ∀ {x : α} {σ : List (Option Nat)} {as' : AS} {m' : Mem} {w' : World} {a' : Act}, Ent k as' σ (J x) → as'.N = as.N → Rel m' w' as' a' → Ext w m as.ob w' m' as'.ob → Aux s ro w' m' as'.ob a'.defers → I x a' w' := fun {x σ as' m' w' a'} he hN hR' hE' hd' => by
      obtain ⟨m2, g1, g2, g3, _, g5, g6, _⟩ := he.sound hR' hk hE'
      rw [hN] at g1 g2 g6
      exact ⟨m2, g1, fun q hq => g3 q (by have := he.1; omega), g2, hd'.less g5 g6⟩
    refine wpIn_loop (fun a' w' => ∃ x, I x a' w') (fun a' w' => leastOf fun j => ∃ x, I x a' w' ∧ μ x = j) ⟨x0, ent h0 rfl hR (Ext.refl _ _ _) hd⟩ fun a1 w1 hI => ?_
    obtain ⟨x, hx⟩ := hI
    obtain ⟨⟨x1, ⟨m1, hR1, hk1, hE1, hd1⟩, hμ⟩, _⟩ := leastOf_spec (p := fun j => ∃ x, I x a1 w1 ∧ μ x = j) ⟨x, hx, rfl⟩
    refine ih (k + 32) ((J x1).as as.N) _ hok (hround x1) hR1 hk1 hd1 fun e k' as' m' w' a' hq hL => ?_
    have hE' := hE1.trans hL.2.2.1
    cases e with
    | normal =>
      obtain ⟨y, hy, hN, σ', he⟩ := hq
      have hIy := ent he hN hL.1 hE' hL.2.2.2
      refine ⟨⟨y, hIy⟩, ?_⟩
      have := (leastOf_spec (p := fun j => ∃ x, I x a' w' ∧ μ x = j) ⟨y, hIy, rfl⟩).2
      rw [← hμ]
      omega
    | _ => exact hQ _ _ _ _ _ _ hq ⟨hL.1, hL.2.1, hE', hL.2.2.2⟩
  | rangeFunc g ps c d ihc ihd =>
    intro k as Q hok h ro n s m w a hR hk hd Q' hQ
    simp only [drawsOk, Bool.and_eq_true] at hok
    exact range_sound (fun k as Q h => ihc k as Q hok.1 h) (fun k as Q h => ihd k as Q hok.2 h) h hR hk hd hQ
  | exit id => exact fun k as Q _ h ro n s m w a hR hk hd Q' hQ => wpIn_exit (hQ _ _ _ _ _ _ h ⟨hR, hk, Ext.refl _ _ _, hd⟩)
  | ret => exact fun k as Q _ h ro n s m w a hR hk hd Q' hQ => wpIn_ret (hQ _ _ _ _ _ _ h ⟨hR, hk, Ext.refl _ _ _, hd⟩)
  | _ => exact fun k as Q _ h => h.elim

end
end Go.Proofs.Ytfaekiaegebmbaa.Ab
