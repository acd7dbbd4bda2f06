/- Code: what must be shown, and that it is enough; loops; a function's contract. -/
import Derived.Test.YtfaekiaegebmbaaAbM
namespace Go.Proofs.Ytfaekiaegebmbaa.Ab
open Go Go.RowKit
set_option linter.unusedSimpArgs false
set_option linter.unusedVariables false

def getT : List (Nat × AV) → Nat → AV
  | [], _ => .un
  | (i, v) :: l, t => if t = i then v else getT l t
def getO : List (Nat × Obj) → Nat → Option Obj
  | [], _ => none
  | (i, v) :: l, t => if t = i then some v else getO l t
/-- A state as two lists. -/
structure LS where
  tms : List (Nat × AV)
  obs : List (Nat × Obj)
def LS.as (L : LS) (N : Nat) : AS := { tm := getT L.tms, ob := getO L.obs, N := N }

def rn (k : Nat) (σ : List (Option Nat)) (n : Nat) : Option (Option Nat) := if n < k then some (some n) else σ[n - k]?

def tmsOk (ρ : Nat → Option (Option Nat)) (as : AS) : List (Nat × AV) → Prop
  | [] => True
  | (t, v) :: l => eqr ρ (as.tm t) v ∧ tmsOk ρ as l
def obOk (ρ : Nat → Option (Option Nat)) (as : AS) (n : Nat) (o' : Obj) : Prop := match ρ n with
  | some (some q) => match as.ob q with
    | some o => eqO ρ o o'
    | none => False
  | some none => match o' with
    | .row _ _ r fz => r = [] ∧ fz = false
    | _ => False
  | none => False
def obsOk (ρ : Nat → Option (Option Nat)) (as : AS) : List (Nat × Obj) → Prop
  | [] => True
  | (n, o') :: l => obOk ρ as n o' ∧ obsOk ρ as l
/-- The state says what L says, slots from k on standing for the objects σ. -/
def Ent (k : Nat) (as : AS) (σ : List (Option Nat)) (L : LS) : Prop := σ.length ≤ 32 ∧ nodup ((L.obs.map (·.1)).filterMap fun n => (rn k σ n).getD none) = true ∧ tmsOk (rn k σ) as L.tms ∧ obsOk (rn k σ) as L.obs

section
variable {m : Mem} {w w0 : World} {m0 : Mem} {ob0 : Nat → Option Obj} {as : AS} {a : Act} {k : Nat} {σ : List (Option Nat)}

theorem tmsOk_get {ρ : Nat → Option (Option Nat)} : ∀ {l : List (Nat × AV)}, tmsOk ρ as l → ∀ t, eqr ρ (as.tm t) (getT l t)
  | [], _, t => by simp only [getT]; cases as.tm t <;> trivial
  | (i, v) :: l, h, t => by
    simp only [getT]
    split
    · rename_i ht; subst ht; exact h.1
    · exact tmsOk_get h.2 t
theorem obsOk_get {ρ : Nat → Option (Option Nat)} : ∀ {l : List (Nat × Obj)}, obsOk ρ as l → ∀ n o', getO l n = some o' → n ∈ l.map (·.1) ∧ obOk ρ as n o'
  | [], _, n, o', h => by cases h
  | (i, v) :: l, h, n, o', hn => by
    simp only [getO] at hn
    split at hn
    · rename_i hni
      subst hni
      cases hn
      exact ⟨by simp, h.1⟩
    · obtain ⟨h1, h2⟩ := obsOk_get h.2 n o' hn
      exact ⟨by simp [h1], h2⟩
/-- The state said anew. -/
theorem Ent.sound0 {L : LS} (h : Ent k as σ L) (hR : Rel m w as a) : ∃ m', Rel m' w (L.as as.N) a ∧ Fr (k + σ.length) m' ∧ (∀ c v x, eqr (rn k σ) c v → Rep w m c x → Rep w m' v x) ∧ m'.I = m.I ∧ (∀ b, own m' (L.as as.N).ob b → own m as.ob b) ∧ ∀ n, n < k → m'.β n = m.β n := by
  obtain ⟨hlen, hnd, ht, ho⟩ := h
  let m' : Mem := ⟨m.I, fun n => match rn k σ n with
    | some (some q) => m.β q
    | some none => some (.slice none 0 0)
    | none => none, fun n b => ∃ q, rn k σ n = some (some q) ∧ m.φ q b⟩
  have hb : ∀ n n', rn k σ n' = some (some n) → m'.β n' = m.β n := fun n n' h => by
    show (match rn k σ n' with
      | some (some q) => m.β q
      | some none => some (.slice none 0 0)
      | none => none) = m.β n
    rw [h]
  have hz : ∀ n', rn k σ n' = some none → m'.β n' = some (.slice none 0 0) := fun n' h => by
    show (match rn k σ n' with
      | some (some q) => m.β q
      | some none => some (.slice none 0 0)
      | none => none) = _
    rw [h]
  have hφ : ∀ n n', rn k σ n' = some (some n) → m'.φ n' = m.φ n := fun n n' h => by
    funext b
    apply propext
    constructor
    · rintro ⟨q, h1, h2⟩; rw [h] at h1; cases h1; exact h2
    · exact fun h2 => ⟨n, h, h2⟩
  have hob : ∀ n o', getO L.obs n = some o' → n ∈ L.obs.map (·.1) ∧ ∃ v, m'.β n = some v ∧ ObAt w m' n v o' ∧ ((∀ b, ¬ foot m' n v o' b) ∨ ∃ q o, rn k σ n = some (some q) ∧ as.ob q = some o ∧ o'.live = o.live ∧ m.β q = some v ∧ ∀ b, foot m' n v o' b ↔ foot m q v o b) := fun n o' h => by
    obtain ⟨h1, h2⟩ := obsOk_get ho n o' h
    refine ⟨h1, ?_⟩
    unfold obOk at h2
    split at h2
    · rename_i q hq
      split at h2
      · rename_i o hqo
        obtain ⟨v, hv, hat⟩ := hR.mr.obs q o hqo
        obtain ⟨h3, h4, h5⟩ := ObAt.eqO (m := m) (m' := m') rfl hb hz (hφ q n hq) hat h2
        exact ⟨v, by rw [hb _ _ hq]; exact hv, h3, .inr ⟨q, o, hq, hqo, h4, hv, h5⟩⟩
      · exact h2.elim
    · rename_i hq
      split at h2
      · obtain ⟨rfl, rfl⟩ := h2
        exact ⟨_, hz _ hq, ⟨by simp, .inl ⟨rfl, rfl⟩⟩, .inl fun b h => by simp [foot, blk] at h⟩
      · exact h2.elim
    · exact h2.elim
  have mr : MR m' w (getO L.obs) := by
    refine ⟨hR.mr.imm, fun n o' h => ?_, fun n n' o o' x x' b h h' hl hl' hne hx hx' hbx hbx' => ?_⟩
    · obtain ⟨_, v, hv, hat, _⟩ := hob n o' h
      exact ⟨v, hv, hat⟩
    · obtain ⟨g1, v, hv, _, hq1⟩ := hob n o h
      obtain ⟨g2, v', hv', _, hq2⟩ := hob n' o' h'
      rw [hv] at hx
      rw [hv'] at hx'
      cases hx; cases hx'
      rcases hq1 with hq1 | ⟨q, o1, hq, hqo, hlq, hvq, hfq⟩
      · exact (hq1 b hbx).elim
      rcases hq2 with hq2 | ⟨q', o2, hq', hqo', hlq', hvq', hfq'⟩
      · exact (hq2 b hbx').elim
      have hqq : q ≠ q' := by
        intro e
        subst e
        have hcount : ∀ (l : List Nat), nodup (l.filterMap fun n => (rn k σ n).getD none) = true → n ∈ l → n' ∈ l → False := by
          intro l
          induction l with
          | nil => intro _ h; simp at h
          | cons c l ih =>
            intro hnd hn hn'
            have fn : (fun n => (rn k σ n).getD none) n = some q := by simp [hq]
            have fn' : (fun n => (rn k σ n).getD none) n' = some q := by simp [hq']
            have tail : nodup (l.filterMap fun n => (rn k σ n).getD none) = true := by
              rw [List.filterMap_cons] at hnd
              split at hnd
              · exact hnd
              · simp only [nodup, Bool.and_eq_true] at hnd; exact hnd.2
            have head : (fun n => (rn k σ n).getD none) c = some q → q ∉ l.filterMap fun n => (rn k σ n).getD none := fun hc => by
              have hc' : (rn k σ c).getD none = some q := hc
              rw [List.filterMap_cons, hc'] at hnd
              simp only [nodup, Bool.and_eq_true, Bool.not_eq_true', List.contains_eq_mem, decide_eq_false_iff_not] at hnd
              exact hnd.1
            rcases List.mem_cons.1 hn with e1 | h1
            · rcases List.mem_cons.1 hn' with e2 | h2
              · exact hne (e1.trans e2.symm)
              · exact head (by rw [← e1]; exact fn) (List.mem_filterMap.2 ⟨n', h2, fn'⟩)
            · rcases List.mem_cons.1 hn' with e2 | h2
              · exact head (by rw [← e2]; exact fn') (List.mem_filterMap.2 ⟨n, h1, fn⟩)
              · exact ih tail h1 h2
        exact hcount _ hnd g1 g2
      exact hR.mr.apart q q' o1 o2 _ _ b hqo hqo' (by rw [← hlq]; exact hl) (by rw [← hlq']; exact hl') hqq hvq hvq' ((hfq b).1 hbx) ((hfq' b).1 hbx')
  have howned : ∀ b, own m' (L.as as.N).ob b → own m as.ob b := fun b hown => by
    obtain ⟨n, o', x, hn, hl, hx, hbx⟩ := hown
    obtain ⟨_, v, hv, _, hq⟩ := hob n o' hn
    rw [hv] at hx
    cases hx
    rcases hq with hq | ⟨q, o, hq, hqo, hlq, hvq, hfq⟩
    · exact (hq b hbx).elim
    · exact ⟨q, o, _, hqo, by rw [← hlq]; exact hl, hvq, (hfq b).1 hbx⟩
  refine ⟨m', ⟨mr, hR.size, fun t => Rep.eqr (m := m) (m' := m') rfl hb hz (hR.tm t) (tmsOk_get ht t)⟩, fun n hn => ?_, fun c v x he hr => Rep.eqr (m := m) (m' := m') rfl hb hz hr he, rfl, howned, fun n hlt => hb _ _ (by simp [rn, hlt])⟩
  show (match rn k σ n with
    | some (some q) => m.β q
    | some none => some (.slice none 0 0)
    | none => none) = none
  have : rn k σ n = none := by
    unfold rn
    rw [if_neg (by omega), List.getElem?_eq_none (by omega)]
  rw [this]
theorem Ent.sound {L : LS} (h : Ent k as σ L) (hR : Rel m w as a) (h0 : Fr k m0) (hE : Ext w0 m0 ob0 w m as.ob) : ∃ m', Rel m' w (L.as as.N) a ∧ Ext w0 m0 ob0 w m' (L.as as.N).ob ∧ Fr (k + σ.length) m' ∧ (∀ c v x, eqr (rn k σ) c v → Rep w m c x → Rep w m' v x) ∧ m'.I = m.I ∧ (∀ b, own m' (L.as as.N).ob b → own m as.ob b) ∧ ∀ n, n < k → m'.β n = m.β n := by
  obtain ⟨m', g1, g2, g3, g4, g5, g6⟩ := h.sound0 hR
  refine ⟨m', g1, ⟨fun b hb => by rw [g4]; exact hE.sub b hb, fun b hb => hE.grow b (by rw [← g4]; exact hb), hE.keep, hE.keepI, fun n x hn => ?_, fun b hown => hE.owned b (g5 b hown), hE.os, hE.tape, hE.output, hE.size⟩, g2, g3, g4, g5, g6⟩
  have hlt : n < k := by
    rcases Nat.lt_or_ge n k with h | h
    · exact h
    · rw [h0 n h] at hn; cases hn
  rw [g6 n hlt]
  exact hE.beta n x hn
end

/-! ### code -/
def onCond (x : AV) (K : Bool → Prop) : Prop := match x with
  | .v (.bool b) => K b
  | .bl ct cf => (ct → K true) ∧ (cf → K false)
  | _ => False
def tmsSelf (ρ : Nat → Option (Option Nat)) : List (Nat × AV) → Prop
  | [] => True
  | (_, v) :: l => eqr ρ v v ∧ tmsSelf ρ l
def putAll (as : AS) : List Tmp → List AV → AS
  | t :: ts, v :: vs => putAll (as.put (some t) v) ts vs
  | _, _ => as
def pendOf : Exit → Option Exit
  | .normal => none
  | e => some e
def jumpOk : Option Exit → Prop
  | none => True
  | some .ret => True
  | some (.exit _) => True
  | _ => False
def vc (P : Program) (eq : TypeId → Option (List Value)) : Code → Nat → AS → (Exit → Nat → AS → Prop) → Prop
  | .skip, k, as, Q => Q .normal k as
  | .region _ ops false, k, as, Q => vcOps P eq ops k ops.toList as fun as' => Q .normal (k + 8 * ops.size) as'
  | .region _ ops true, k, as, Q => vcOpsD P eq ops k ops.toList [] as fun as' => Q .normal (k + 8 * ops.size) as'
  | .seq c d, k, as, Q => vc P eq c k as fun e k' as' => match e with
    | .normal => vc P eq d k' as' Q
    | e => Q e k' as'
  | .cond x c d, k, as, Q => onCond (ev as x) (fun b => (b = true → vc P eq c k as Q) ∧ (b = false → vc P eq d k as Q))
  | .block id c, k, as, Q => vc P eq c k as fun e k' as' => match e with
    | .exit j => if j = id then Q .normal k' as' else Q (.exit j) k' as'
    | e => Q e k' as'
  | .loop c, k, as, Q => ∃ (α : Type) (J : α → LS) (μ : α → Nat) (x0 : α), (∃ σ, Ent k as σ (J x0)) ∧ ∀ x, vc P eq c (k + 32) ((J x).as as.N) fun e k' as' => match e with
    | .normal => ∃ y, μ y < μ x ∧ as'.N = as.N ∧ ∃ σ, Ent k as' σ (J y)
    | e => Q e k' as'
  | .rangeFunc g ps assign body, k, as, Q => ∃ (it : FuncId) (bs bs' : List AV) (ι : Type) (tms : List (Nat × AV)) (obs : ι → List (Nat × Obj)) (pend : ι → Option Exit) (St : ι → List AV → ι → Prop) (x0 y0 : ι) (r : AV),
      ev as g = .bf it bs ∧ eqrL (eqr2 (rt [])) bs bs' ∧ (∃ σ, Ent k as σ ⟨tms, obs x0⟩) ∧ pend x0 = none ∧ jumpOk (pend y0) ∧ (∀ σ, tmsSelf (rn k σ) tms) ∧
      (∀ Φ : ι → Value → (Nat → Prop) → (Nat → Prop) → World → Prop, (∀ x args y, St x args y → CbG P args [.opq (Φ x)] (.v (.bool (pend y).isNone)) [.opq (Φ y)]) → SpecG P it (bs' ++ [.yl 0]) [.opq (Φ x0)] r [.opq (Φ y0)]) ∧
      (∀ x args y, St x args y → pend x = none ∧ jumpOk (pend y) ∧ args.length = ps.size ∧ ∃ args', eqrL (eqr2 (rt [])) args args' ∧
        vc P eq assign (k + 32) (putAll ((LS.mk tms (obs x)).as as.N) ps.toList args') fun e k1 as1 => e = .normal ∧ vc P eq body k1 as1 fun e k2 as2 => pendOf e = pend y ∧ ∃ σ, Ent k as2 σ ⟨[], obs y⟩) ∧
      (match pend y0 with
        | none => Q .normal (k + 32) ((LS.mk tms (obs y0)).as as.N)
        | some e => Q e (k + 32) ((LS.mk tms (obs y0)).as as.N))
  | .exit id, k, as, Q => Q (.exit id) k as
  | .ret, k, as, Q => Q .ret k as
  | _, _, _, _ => False

/-- Every region whose order is drawn is fit for it. -/
def drawsOk : Code → Bool
  | .region _ ops true => drawOk ops
  | .seq c d => drawsOk c && drawsOk d
  | .cond _ c d => drawsOk c && drawsOk d
  | .block _ c => drawsOk c
  | .loop c => drawsOk c
  | .rangeFunc _ _ c d => drawsOk c && drawsOk d
  | _ => true

theorem least {p : Nat → Prop} (h : ∃ j, p j) : ∃ j, p j ∧ ∀ i, p i → j ≤ i := by
  obtain ⟨j, hj⟩ := h
  induction j using Nat.strongRecOn with
  | ind j ih =>
    by_cases hq : ∃ i, i < j ∧ p i
    · obtain ⟨i, hi, hp⟩ := hq
      exact ih i hi hp
    · exact ⟨j, hj, fun i hi => by
        rcases Nat.lt_or_ge i j with h | h
        · exact absurd ⟨i, h, hi⟩ hq
        · exact h⟩

noncomputable def leastOf (p : Nat → Prop) : Nat := open Classical in if h : ∃ j, p j then Classical.choose (least h) else 0
theorem leastOf_spec {p : Nat → Prop} {j : Nat} (h : p j) : p (leastOf p) ∧ leastOf p ≤ j := by
  have he : ∃ j, p j := ⟨j, h⟩
  unfold leastOf
  rw [dif_pos he]
  exact ⟨(Classical.choose_spec (least he)).1, (Classical.choose_spec (least he)).2 j h⟩

end Go.Proofs.Ytfaekiaegebmbaa.Ab
