/- A range over a function: the record, the rounds, the statement. Code: what must be shown is enough. A function's contract out of its code; a call by a contract. The same, with what is still to come as data: for the simplifier. -/
import Derived.Test.YtciegkpjenjaeaaDoorZAbJ
import Derived.RangeFuncRecord
namespace Go.Proofs.YtciegkpjenjaeaaDoor.Ab
open Go Go.RowKit
set_option linter.unusedSimpArgs false
set_option linter.unusedVariables false

/-- The memory as the objects say it, but for the bound on what cannot turn. -/
structure MRo (m : Mem) (w : World) (ob : Nat → Option Obj) : Prop where
  obs : ∀ n o, ob n = some o → ∃ v, m.β n = some v ∧ ObAt w m n v o
  apart : ∀ (n n' : Nat) (o o' : Obj) (x x' : Value) (b : Nat), ob n = some o → ob n' = some o' → o.live = true → o'.live = true → n ≠ n' → m.β n = some x → m.β n' = some x' → foot m n x o b → ¬ foot m n' x' o' b

section
variable {m m' : Mem} {w w' : World} {ob ob' : Nat → Option Obj} {b : Nat}
theorem MR.o (h : MR m w ob) : MRo m w ob := ⟨h.obs, h.apart⟩
theorem MRo.mr (h : MRo m w ob) (hi : Imm m.I w) : MR m w ob := ⟨hi, h.obs, h.apart⟩
theorem foot_congr (hφ : m'.φ = m.φ) (n : Nat) (x : Value) (o : Obj) : foot m' n x o b = foot m n x o b := by cases o <;> simp [foot, hφ]
theorem own_congr (hβ : m'.β = m.β) (hφ : m'.φ = m.φ) : own m' ob b ↔ own m ob b := by
  unfold own
  constructor
  · rintro ⟨n, o, x, h1, h2, h3, h4⟩
    exact ⟨n, o, x, h1, h2, by rw [← hβ]; exact h3, by rw [← foot_congr hφ]; exact h4⟩
  · rintro ⟨n, o, x, h1, h2, h3, h4⟩
    exact ⟨n, o, x, h1, h2, by rw [hβ]; exact h3, by rw [foot_congr hφ]; exact h4⟩
theorem MRo.later (h : MRo m w ob) (hs : ∀ b, m.I b → m'.I b) (hkI : ∀ b, m.I b → w'.heap[b]? = w.heap[b]?) (hβ : m'.β = m.β) (hφ : m'.φ = m.φ) (hl : Later w w') (hk : ∀ b, own m ob b → w'.heap[b]? = w.heap[b]?) (hn : ∀ b, own m ob b → ¬ m'.I b) : MRo m' w' ob := by
  refine ⟨fun n o ho => ?_, fun n n' o o' x x' b h1 h2 h3 h4 h5 h6 h7 h8 => ?_⟩
  · obtain ⟨v, hv, hat⟩ := h.obs n o ho
    refine ⟨v, by rw [hβ]; exact hv, hat.later hs hkI (fun n x hx => by rw [hβ]; exact hx) hl (by rw [hφ]) (fun b hb => ?_) (fun b hb hlv _ => hn b ⟨n, o, v, ho, hlv, hv, hb⟩)⟩
    cases hlv : o.live with
    | true => exact hk b ⟨n, o, v, ho, hlv, hv, hb⟩
    | false => exact hkI b (hat.is_I hlv hb)
  · rw [hβ] at h6 h7
    rw [foot_congr hφ] at h8 ⊢
    exact h.apart n n' o o' x x' b h1 h2 h3 h4 h5 h6 h7 h8

theorem later_put (w : World) (r : Nat) (o : _root_.Go.Obj) : Later w (w.putObj r o) := ⟨rfl, rfl, rfl, by simp⟩
/-- A block that is nobody's turns. -/
theorem MR.put (h : MR m w ob) {r : Nat} {o : _root_.Go.Obj} (ho : ¬ own m ob r) (hI : ¬ m.I r) : MR m (w.putObj r o) ob := by
  have hi : ∀ b, m.I b → (w.putObj r o).heap[b]? = w.heap[b]? := fun b hb => World.putObj_heap_other (fun e => hI (e ▸ hb))
  refine (h.o.later (fun _ h => h) hi rfl rfl (later_put w r o) (fun b hb => World.putObj_heap_other (fun e => ho (e ▸ hb))) (fun b hb => own.not_I h hb)).mr ⟨fun b hb => ?_, h.imm.tab.ext (fun _ h => h) hi⟩
  simpa using h.imm b hb
theorem Rep.put {a : AV} {x : Value} (h : Rep w m a x) {r : Nat} {o : _root_.Go.Obj} (hI : ¬ m.I r) : Rep (w.putObj r o) m a x :=
  h.ext (fun _ h => h) (fun b hb => World.putObj_heap_other (fun e => hI (e ▸ hb))) (fun _ _ h => h)
theorem Rel.putObj {as : AS} {a : Act} (h : Rel m w as a) {r : Nat} {o : _root_.Go.Obj} (ho : ¬ own m as.ob r) (hI : ¬ m.I r) : Rel m (w.putObj r o) as a :=
  ⟨h.mr.put ho hI, h.size, fun t => (h.tm t).put hI⟩
end

def jmpCode : Exit → Code
  | .ret => .ret
  | .exit id => .exit id
  | _ => .skip

/-- Between two rounds: the objects, the temporaries as they were saved, the record. -/
structure RF (k : Nat) (m0 : Mem) (tmps : Array Value) (l : Nat) (R : Loop) (tms : List (Nat × AV)) (os : List (Nat × Obj)) (pend : Option Exit) (m : Mem) (F : Nat → Prop) (w : World) : Prop where
  ob : MRo m w (getO os)
  tm : ∀ t, Rep w m0 (getT tms t) (tmps.getD t undef)
  sub : ∀ b, m0.I b → m.I b
  hF : ∀ b, F b ↔ own m (getO os) b ∨ b = l
  nl : ¬ own m (getO os) l
  rc : w.heap[l]? = some (.loop { R with state := if pend.isNone then .ready else .done, pending := pend.map jmpCode })
  beta : ∀ n x, m0.β n = some x → m.β n = some x
  fr : ∀ n, k + 32 ≤ n → m.β n = none
def RΦ (k : Nat) (m0 : Mem) (tmps : Array Value) (l : Nat) (R : Loop) (tms : List (Nat × AV)) (os : List (Nat × Obj)) (pend : Option Exit) (v : Value) (I F : Nat → Prop) (w : World) : Prop :=
  v = .func (.yield l) #[] #[] ∧ ∃ β φ, RF k m0 tmps l R tms os pend ⟨I, β, φ⟩ F w

/-- The memory of which the rounds are one object. -/
def yM (I : Nat → Prop) (l : Nat) (F : Nat → Prop) : Mem := ⟨I, fun n => if n = 0 then some (.func (.yield l) #[] #[]) else none, fun n b => n = 0 ∧ F b⟩
theorem yM_φ {I : Nat → Prop} {l : Nat} {F : Nat → Prop} : (yM I l F).φ 0 = F := by funext b; simp [yM]

theorem own_opq {m : Mem} {Φ : Value → (Nat → Prop) → (Nat → Prop) → World → Prop} {v : Value} (hv : m.β 0 = some v) (b : Nat) : own m (obl [.opq Φ]) b ↔ m.φ 0 b := by
  constructor
  · rintro ⟨n, o, x, h1, h2, h3, h4⟩
    have hn : n = 0 := by
      unfold obl at h1
      rcases Nat.eq_zero_or_pos n with h | h
      · exact h
      · rw [List.getElem?_eq_none (by simp; omega)] at h1; cases h1
    subst hn
    have : o = .opq Φ := by simpa [obl] using h1.symm
    subst this
    exact h4
  · exact fun h => ⟨0, .opq Φ, v, rfl, rfl, hv, h⟩

section
variable {k : Nat} {m0 m : Mem} {tmps : Array Value} {l : Nat} {R : Loop} {tms : List (Nat × AV)} {os : List (Nat × Obj)} {pend : Option Exit} {F : Nat → Prop} {w : World}

theorem RF.at (h : RF k m0 tmps l R tms os pend m F w) (hi : Imm m.I w) (hl : ¬ m.I l) : MR (yM m.I l F) w (obl [.opq (RΦ k m0 tmps l R tms os pend)]) := by
  have hnI : ∀ b, F b → b < w.heap.size ∧ ¬ m.I b := fun b hb => by
    rcases (h.hF b).1 hb with h1 | rfl
    · exact ⟨own.lt (h.ob.mr hi) h1, own.not_I (h.ob.mr hi) h1⟩
    · exact ⟨lt_of_get h.rc, hl⟩
  have hat : OpqAt w (yM m.I l F) 0 (.func (.yield l) #[] #[]) (RΦ k m0 tmps l R tms os pend) := by
    unfold OpqAt
    rw [yM_φ]
    refine ⟨⟨rfl, m.β, m.φ, h⟩, hnI, fun I' w' hs hn hlt hk => ⟨rfl, m.β, m.φ, ?_⟩⟩
    have hkI : ∀ b, m.I b → w'.heap[b]? = w.heap[b]? := fun b hb => hk b (.inr hb)
    have hkF : ∀ b, F b → w'.heap[b]? = w.heap[b]? := fun b hb => hk b (.inl hb)
    refine ⟨h.ob.later (m' := ⟨I', m.β, m.φ⟩) hs hkI rfl rfl hlt (fun b hb => hkF b ((h.hF b).2 (.inl hb))) (fun b hb => hn b ((h.hF b).2 (.inl hb))), fun t => (h.tm t).ext (fun _ h => h) (fun b hb => hkI b (h.sub b hb)) (fun _ _ h => h), fun b hb => hs b (h.sub b hb), fun b => ?_, ?_, ?_, h.beta, h.fr⟩
    · rw [own_congr (m := m) (m' := ⟨I', m.β, m.φ⟩) rfl rfl]; exact h.hF b
    · rw [own_congr (m := m) (m' := ⟨I', m.β, m.φ⟩) rfl rfl]; exact h.nl
    · rw [hkF l ((h.hF l).2 (.inr rfl))]; exact h.rc
  have get : ∀ n o, obl [.opq (RΦ k m0 tmps l R tms os pend)] n = some o → n = 0 ∧ o = .opq (RΦ k m0 tmps l R tms os pend) := fun n o ho => by
    unfold obl at ho
    rcases Nat.eq_zero_or_pos n with h | h
    · subst h; exact ⟨rfl, by simpa using ho.symm⟩
    · rw [List.getElem?_eq_none (by simp; omega)] at ho; cases ho
  refine ⟨hi, fun n o ho => ?_, fun n n' o o' x x' b h1 h2 _ _ hne => ?_⟩
  · obtain ⟨rfl, rfl⟩ := get n o ho
    exact ⟨_, rfl, hat⟩
  · exact absurd ((get _ _ h1).1.trans (get _ _ h2).1.symm) hne

theorem RF.tmR (h : RF k m0 tmps l R tms os pend m F w) (t : Nat) : Rep w m (getT tms t) (tmps.getD t undef) := (h.tm t).ext h.sub (fun _ _ => rfl) h.beta
/-- Plain objects hang on their blocks alone. -/
theorem ObAt.plain {w w' : World} {m m' : Mem} {n : Nat} {o : Obj} {v : Value} (h : ObAt w m n v o) (ho : onlyO o) (hβ : m'.β = m.β) (hφ : m'.φ n = m.φ n) (hl : Later w w') (hk : ∀ b, foot m n v o b → w'.heap[b]? = w.heap[b]?) (hn : ∀ b, foot m n v o b → ¬ m'.I b) : ObAt w' m' n v o := by
  have h1 : ObAt w ⟨fun _ => False, m.β, m.φ⟩ n v o := ObAt.only (m := m) h ho rfl fun b _ hb => hb
  have hf : ∀ b, foot ⟨fun _ => False, m.β, m.φ⟩ n v o b → foot m n v o b := fun b hb => by cases o <;> exact hb
  refine ObAt.later h1 (fun b hb => hb.elim) (fun b hb => hb.elim) (fun n x hx => by rw [hβ]; exact hx) hl hφ (fun b hb => hk b (hf b hb)) (fun b hb _ _ => hn b (hf b hb))
theorem onlyO.live {o : Obj} (h : onlyO o) : o.live = true := by
  cases o with
  | box => rfl
  | row e sz rows fz => simp [Obj.live, h.1]
  | opq => rfl
  | map => rfl
theorem getO_mem : ∀ {os : List (Nat × Obj)} {n : Nat} {o : Obj}, getO os n = some o → (n, o) ∈ os
  | [], n, o, h => by cases h
  | (i, v) :: l, n, o, h => by
    simp only [getO] at h
    split at h
    · rename_i e; cases h; rw [e]; exact List.mem_cons_self
    · exact List.mem_cons_of_mem _ (getO_mem h)
theorem RF.shr {I : Nat → Prop} {β : Nat → Option Value} {φ : Nat → Nat → Prop} (hpl : ∀ p ∈ os, onlyO p.2) (h : RF k m0 tmps l R tms os pend ⟨I, β, φ⟩ F w) {I' : Nat → Prop} {w' : World} (h0 : ∀ b, m0.I b → I' b) (hF : ∀ b, F b → ¬ I' b) (hl : Later w w') (hk : ∀ b, F b ∨ m0.I b → w'.heap[b]? = w.heap[b]?) : RF k m0 tmps l R tms os pend ⟨I', β, φ⟩ F w' := by
  have hoc : ∀ b, own ⟨I', β, φ⟩ (getO os) b ↔ own ⟨I, β, φ⟩ (getO os) b := fun b => own_congr (m := ⟨I, β, φ⟩) (m' := ⟨I', β, φ⟩) rfl rfl
  refine ⟨⟨fun n o ho => ?_, fun n n' o o' x x' b h1 h2 h3 h4 h5 h6 h7 h8 => ?_⟩, fun t => (h.tm t).ext (fun _ h => h) (fun b hb => hk b (.inr hb)) (fun _ _ h => h), h0, fun b => ?_, ?_, ?_, h.beta, h.fr⟩
  · obtain ⟨v, hv, hat⟩ := h.ob.obs n o ho
    have hp := hpl _ (getO_mem ho)
    have hin : ∀ b, foot ⟨I, β, φ⟩ n v o b → F b := fun b hb => (h.hF b).2 (.inl ⟨n, o, v, ho, hp.live, hv, hb⟩)
    exact ⟨v, hv, hat.plain (m' := ⟨I', β, φ⟩) hp rfl rfl hl (fun b hb => hk b (.inl (hin b hb))) (fun b hb => hF b (hin b hb))⟩
  · have e : ∀ n x o b, foot ⟨I', β, φ⟩ n x o b ↔ foot ⟨I, β, φ⟩ n x o b := fun n x o b => by cases o <;> exact Iff.rfl
    rw [e] at h8 ⊢
    exact h.ob.apart n n' o o' x x' b h1 h2 h3 h4 h5 h6 h7 h8
  · rw [hoc]; exact h.hF b
  · rw [hoc]; exact h.nl
  · rw [hk l (.inl ((h.hF l).2 (.inr rfl)))]; exact h.rc
theorem RΦ.shr {ι : Type} {obs : ι → List (Nat × Obj)} {pend : ι → Option Exit} (hpl : ∀ x, ∀ p ∈ obs x, onlyO p.2) : Shr (fun x => RΦ k m0 tmps l R tms (obs x) (pend x)) := by
  refine ⟨m0.I, fun x v I F w h => ?_⟩
  obtain ⟨rfl, β, φ, h⟩ := h
  exact ⟨h.sub, fun I' w' h0 hF hl hk => ⟨rfl, β, φ, h.shr (hpl x) h0 hF hl hk⟩⟩

theorem RF.open {mc : Mem} {v : Value} (h : MR mc w (obl [.opq (RΦ k m0 tmps l R tms os pend)])) (hv : mc.β 0 = some v) : v = .func (.yield l) #[] #[] ∧ (∃ β φ, RF k m0 tmps l R tms os pend ⟨mc.I, β, φ⟩ (mc.φ 0) w) ∧ ∀ b, mc.φ 0 b → b < w.heap.size ∧ ¬ mc.I b := by
  obtain ⟨v', hv', hat⟩ := h.obs 0 (.opq (RΦ k m0 tmps l R tms os pend)) rfl
  rw [hv] at hv'
  cases hv'
  exact ⟨hat.1.1, hat.1.2, hat.2.1⟩

theorem tmsSelf_get {ρ : Nat → Option (Option Nat)} : ∀ {l : List (Nat × AV)}, tmsSelf ρ l → ∀ t, eqr ρ (getT l t) (getT l t)
  | [], _, t => by simp only [getT]; trivial
  | (i, v) :: l, h, t => by
    simp only [getT]
    split
    · exact h.1
    · exact tmsSelf_get h.2 t

theorem putAll_rel {as : AS} : ∀ (ts : List Tmp) (vs : List AV) (us : List Value) {as : AS} {a : Act}, Rel m w as a → vs.length = us.length → (∀ i c, vs[i]? = some c → Rep w m c (us.getD i undef)) →
    Rel m w (putAll as ts vs) { a with tmps := (ts.zip us).foldl (fun tmps (t, x) => tmps.setIfInBounds t x) a.tmps }
  | [], vs, us, as, a, h, _, _ => by simpa [putAll] using h
  | t :: ts, [], us, as, a, h, hl, _ => by
    have : us = [] := List.eq_nil_of_length_eq_zero (by simpa using hl.symm)
    subst this
    simpa [putAll] using h
  | t :: ts, v :: vs, [], as, a, h, hl, _ => by simp at hl
  | t :: ts, v :: vs, u :: us, as, a, h, hl, hr => by
    simp only [putAll, List.zip_cons_cons, List.foldl_cons]
    exact putAll_rel (as := as) ts vs us (put_rel h (some t) (by simpa using hr 0 v rfl)) (by simpa using hl) (fun i c hc => by simpa using hr (i + 1) c (by simpa using hc))
theorem putAll_N (as : AS) : ∀ (ts : List Tmp) (vs : List AV) (as : AS), (putAll as ts vs).ob = as.ob
  | [], _, _ => by simp [putAll]
  | _ :: _, [], _ => by simp [putAll]
  | t :: ts, v :: vs, as1 => by
    simp only [putAll]
    rw [putAll_N as ts vs, put_ob]
end

/-- The walk of a code is known to be sound. -/
def WalkOk (P : Program) (eq : TypeId → Option (List Value)) (c : Code) : Prop := ∀ (k : Nat) (as : AS) (Q : Exit → Nat → AS → Prop), vc P eq c k as Q → ∀ {ro : Option Nat} {n s : Nat} {m : Mem} {w : World} {a : Act}, Rel m w as a → Fr k m → Aux s ro w m as.ob a.defers →
    ∀ {Q' : Exit → Act → World → Prop}, (∀ e k' as' m' w' a', Q e k' as' → Lands s ro m w as.ob k' as' m' w' a' → Q' e a' w') → c.wpIn (W ro) n P Q' a w

section
variable {P : Program} {eq : TypeId → Option (List Value)} {k : Nat} {m0 : Mem} {tmps : Array Value} {l : Nat} {R : Loop} {tms : List (Nat × AV)} {osx osy : List (Nat × Obj)} {pend : Option Exit}

/-- A round, as a contract of yield. -/
theorem RF.cb {args args1 args' : List AV} (SA : WalkOk P eq R.assign) (SB : WalkOk P eq R.body) (hT : R.tmps = tmps) (hfr0 : Fr k m0) (hj : jumpOk pend) (hps : args.length = R.params.size) (hargs : eqrL (eqr2 (rt [])) args args1) (hlit : eqrL (lit m0.β) args1 args')
    (h : vc P eq R.assign (k + 32) (putAll ((LS.mk tms osx).as tmps.size) R.params.toList args') fun e k1 as1 => e = .normal ∧ vc P eq R.body k1 as1 fun e k2 as2 => pendOf e = pend ∧ ∃ σ, Ent k as2 σ ⟨[], osy⟩) :
    CbG P args [.opq (RΦ k m0 tmps l R tms osx none)] (.v (.bool pend.isNone)) [.opq (RΦ k m0 tmps l R tms osy pend)] := by
  refine ⟨Nat.le_refl _, by simp, fun m w f fst cap vs hβ hmr hfr hvs hrep => ?_⟩
  obtain ⟨hv, ⟨β, φ, hRF⟩, hFI⟩ := RF.open hmr hβ
  rw [hv]
  intro ro n o a next Q hnext
  have hinv : (do let d ← Deferred.ofValue (.func (.yield l) #[] #[]) vs; invoke d.target d.args : Sem Next).run P w = .ok (.round l R.fn ((R.params.zip vs).foldl (fun tmps (t, a) => tmps.setIfInBounds t a) R.tmps) R.assign R.body) w := by
    have hy := run_yield (P := P) (args := vs) hRF.rc (by show vs.size = R.params.size; omega)
    simpa [Deferred.ofValue, invoke] using hy
  rw [hinv, Oper.uponIn_round]
  have hlF : m.φ 0 l := (hRF.hF l).2 (.inr rfl)
  have hlI : ¬ m.I l := (hFI l hlF).2
  have hlt : l < w.heap.size := lt_of_get hRF.rc
  let mr : Mem := ⟨m.I, β, φ⟩
  have hmr0 : MR mr w (getO osx) := hRF.ob.mr hmr.imm
  refine ⟨fun h => by simp [W, Fence.wide] at h, RoundIn.mono (R := fun e w' => ∃ v, e = .returned v ∧ next (a.put o.dst v) w') (roundIn_of_wpIn (by trivial) ?_) (fun e w' he => by obtain ⟨v, rfl, hv⟩ := he; exact hv)⟩
  -- the walk
  have hR0 : Rel mr w ((LS.mk tms osx).as tmps.size) { tmps := tmps, defers := [] } := ⟨hmr0, rfl, hRF.tmR⟩
  obtain ⟨hal, hag⟩ := eqrL_get hargs
  obtain ⟨hal1, hag1⟩ := eqrL_get hlit
  have hR1 : Rel mr w (putAll ((LS.mk tms osx).as tmps.size) R.params.toList args') { tmps := (R.params.zip vs).foldl (fun tmps (t, a) => tmps.setIfInBounds t a) R.tmps, defers := [] } := by
    have := putAll_rel (as := (LS.mk tms osx).as tmps.size) R.params.toList args' vs.toList hR0 (by simp; omega) (fun i c hc => by
      obtain ⟨c1, hc1, he1⟩ := hag1 i c hc
      obtain ⟨c', hc', he⟩ := hag i c1 hc1
      have h3 : Rep w mr c1 (vs.getD i undef) := Rep.eqr2 (m := m) (m' := mr) (ρ := rt []) rfl (fun n n' h => by simp [rt] at h) (fun n' h => by simp [rt] at h) (hrep i c' hc') he
      have h2 : Rep w mr c (vs.getD i undef) := he1 w mr _ (fun n u hu => hRF.beta n u hu) h3
      simpa [Array.getD_eq_getD_getElem?, List.getD_eq_getElem?_getD] using h2)
    have e : (R.params.zip vs).foldl (fun tmps (t, a) => tmps.setIfInBounds t a) R.tmps = (R.params.toList.zip vs.toList).foldl (fun tmps (t, x) => tmps.setIfInBounds t x) tmps := by
      rw [← Array.foldl_toList, Array.toList_zip, hT]
    rw [e]
    exact this
  have hob1 : (putAll ((LS.mk tms osx).as tmps.size) R.params.toList args').ob = getO osx := putAll_N ((LS.mk tms osx).as tmps.size) _ _ _
  have hA1 : Aux 0 (some l) w mr (putAll ((LS.mk tms osx).as tmps.size) R.params.toList args').ob [] := by
    rw [hob1]
    exact ⟨fun d hd => (by cases hd), List.nodup_nil, Nat.zero_le _, fun l' hl' => by cases hl'; exact ⟨_, hRF.rc, hRF.nl, hlI⟩⟩
  show R.assign.wpIn (W (some l)) _ P _ _ w
  refine SA (k + 32) _ _ h hR1 (fun n hn => hRF.fr n hn) hA1 fun e k1 as1 m1 w1 a1 hq hL => ?_
  obtain ⟨rfl, hvcB⟩ := hq
  obtain ⟨hR2, hfr2, hE2, hA2⟩ := hL
  rw [hob1] at hE2
  have hE2l : w1.heap[l]? = w.heap[l]? := hE2.keep l hlt hRF.nl
  obtain ⟨_, _, hol1, hil1⟩ := hA2.rnd l rfl
  have hrc1 : w1.heap[l]? = some (.loop { R with state := .ready, pending := none }) := by rw [hE2l]; simpa using hRF.rc
  have hbr := run_beginRound (P := P) hrc1 rfl
  refine ⟨_, hbr, ?_⟩
  have hlt1 : l < w1.heap.size := lt_of_get hrc1
  let Rb : Loop := { { R with state := .ready, pending := none } with state := .busy }
  have hA3 : Aux 0 (some l) (w1.putObj l (.loop Rb)) m1 as1.ob a1.defers := by
    refine ⟨fun d hd => ?_, hA2.nd, Nat.zero_le _, fun l' hl' => by cases hl'; exact ⟨Rb, World.putObj_heap_same hlt1, hol1, hil1⟩⟩
    obtain ⟨r, h1, h2, h3, h4, h5⟩ := hA2.marks d hd
    refine ⟨r, h1, h2, ?_, h4, h5⟩
    rw [World.putObj_heap_other (fun e => by rw [e, hrc1] at h3; cases h3)]
    exact h3
  refine SB k1 as1 _ hvcB (hR2.putObj hol1 hil1) hfr2 hA3 fun e k2 as2 m2 w3 a2 hq hL2 => ?_
  obtain ⟨hpe, σ, hent⟩ := hq
  obtain ⟨hR3, hfr3, hE3, hA4⟩ := hL2
  have hlt2 : l < (w1.putObj l (.loop Rb)).heap.size := by simpa using hlt1
  have hrc3 : w3.heap[l]? = some (.loop Rb) := by rw [hE3.keep l hlt2 hol1]; exact World.putObj_heap_same hlt1
  obtain ⟨_, _, hol3, hil3⟩ := hA4.rnd l rfl
  have hlt3 : l < w3.heap.size := lt_of_get hrc3
  obtain ⟨m4, g1, g2, g3, g4, g5, g6⟩ := hent.sound0 hR3
  have hg1ob : ((⟨[], osy⟩ : LS).as as2.N).ob = getO osy := rfl
  -- common end
  have fin : ∀ jump, jump = pend.map jmpCode → ∃ v w', (Instr.endRound l jump).run P w3 = .ok v w' ∧ ∃ v', Ending.returned v = .returned v' ∧ next (a.put o.dst v') w' := by
    intro jump hjump
    refine ⟨_, _, run_endRound jump hrc3, _, rfl, ?_⟩
    let R4 : Loop := { Rb with state := if jump.isNone then .ready else .done, pending := jump }
    let w4 : World := w3.putObj l (.loop R4)
    have hown4 : ∀ b, own m4 (getO osy) b → own m2 as2.ob b := fun b hb => g5 b hb
    have hl4 : ¬ own m4 (getO osy) l := fun hb => hol3 (hown4 l hb)
    have hI4 : ¬ m4.I l := by rw [g4]; exact hil3
    have hmr4 : MR m4 w4 (getO osy) := (show MR m4 w3 (getO osy) from g1.mr).put hl4 hI4
    have hjn : jump.isNone = pend.isNone := by rw [hjump]; cases pend <;> rfl
    have hIsub : ∀ b, mr.I b → m2.I b := fun b hb => hE3.sub b (hE2.sub b hb)
    have hRF4 : RF k m0 tmps l R tms osy pend m4 (fun b => own m4 (getO osy) b ∨ b = l) w4 := by
      refine ⟨hmr4.o, fun t => ?_, fun b hb => by rw [g4]; exact hIsub b (hRF.sub b hb), fun b => Iff.rfl, hl4, ?_, fun n x hx => ?_, fun n hn => g2 n (by have := hent.1; omega)⟩
      · refine (hRF.tm t).ext (fun _ h => h) (fun b hb => ?_) (fun _ _ h => h)
        have hbI : mr.I b := hRF.sub b hb
        have hnl : b ≠ l := fun e => hlI (e ▸ hbI)
        show (w3.putObj l _).heap[b]? = _
        rw [World.putObj_heap_other hnl, hE3.keepI b (hE2.sub b hbI), World.putObj_heap_other hnl, hE2.keepI b hbI]
      · show (w3.putObj l (.loop R4)).heap[l]? = _
        rw [World.putObj_heap_same hlt3]
        simp only [R4, Rb, hjump]
        cases pend <;> rfl
      · have hn : n < k := by
          rcases Nat.lt_or_ge n k with h | h
          · exact h
          · rw [hfr0 n h] at hx; cases hx
        rw [g6 n hn]
        exact hE3.beta n x (hE2.beta n x (hRF.beta n x hx))
    have hmrF := hRF4.at hmr4.imm hI4
    refine hnext _ _ ⟨yM m4.I l (fun b => own m4 (getO osy) b ∨ b = l), ?_, hmrF, ?_, fun n hn => ?_⟩
    · rw [hjn]; exact .v _
    · have hownm : ∀ b, own m (obl [.opq (RΦ k m0 tmps l R tms osx none)]) b ↔ m.φ 0 b := own_opq hβ
      have hgrow : ∀ b, own m2 as2.ob b → (own mr (getO osx) b ∨ w.heap.size ≤ b) := fun b hb => by
        rcases hE3.owned b hb with h1 | h1
        · exact hE2.owned b h1
        · right
          have := hE2.size
          simp at h1
          omega
      refine ⟨fun b hb => by show m4.I b; rw [g4]; exact hIsub b hb, fun b hb => ?_, fun b hb hn => ?_, fun b hb => ?_, fun n x hx => ?_, fun b hb => ?_, ?_, ?_, ?_, ?_⟩
      · have hb' : m2.I b := by rw [← g4]; exact hb
        rw [hownm]
        rcases hE3.grow b hb' with h1 | h1 | h1
        · rcases hE2.grow b h1 with h2 | h2 | h2
          · exact .inl h2
          · exact .inr (.inl ((hRF.hF b).2 (.inl h2)))
          · exact .inr (.inr h2)
        · rcases hE2.owned b h1 with h2 | h2
          · exact .inr (.inl ((hRF.hF b).2 (.inl h2)))
          · exact .inr (.inr h2)
        · right; right
          have := hE2.size
          simp at h1
          omega
      · rw [hownm, hRF.hF] at hn
        have hnl : b ≠ l := fun e => hn (.inr e)
        have hno : ¬ own mr (getO osx) b := fun h => hn (.inl h)
        show (w3.putObj l _).heap[b]? = _
        have hsz := hE2.size
        rw [World.putObj_heap_other hnl, hE3.keep b (by simp; omega) (fun h => ?_), World.putObj_heap_other hnl, hE2.keep b hb hno]
        rcases hE2.owned b h with h2 | h2
        · exact hno h2
        · omega
      · have hnl : b ≠ l := fun e => hlI (e ▸ hb)
        show (w3.putObj l _).heap[b]? = _
        rw [World.putObj_heap_other hnl, hE3.keepI b (hE2.sub b hb), World.putObj_heap_other hnl, hE2.keepI b hb]
      · have hn : n = 0 := by
          rcases Nat.eq_zero_or_pos n with h | h
          · exact h
          · rw [hfr n h] at hx; cases hx
        subst hn
        rw [hβ] at hx
        cases hx
        rw [hv]
        rfl
      · rw [own_opq (v := .func (.yield l) #[] #[]) rfl, yM_φ] at hb
        rw [hownm]
        rcases hb with hb | rfl
        · rcases hgrow b (hown4 b hb) with h1 | h1
          · exact .inl ((hRF.hF b).2 (.inl h1))
          · exact .inr h1
        · exact .inl hlF
      · exact hE3.os.trans hE2.os
      · exact hE3.tape.trans hE2.tape
      · exact hE3.output.trans hE2.output
      · show w.heap.size ≤ (w3.putObj l _).heap.size
        have h1 := hE2.size
        have h2 := hE3.size
        simp at h2 ⊢
        omega
    · show (if n = 0 then _ else none) = none
      have : n ≠ 0 := by simp at hn; omega
      rw [if_neg this]
  cases e with
  | normal => exact fin none (by rw [← hpe]; rfl)
  | ret => exact fin (some .ret) (by rw [← hpe]; rfl)
  | exit id => exact fin (some (.exit id)) (by rw [← hpe]; rfl)
  | goto t => rw [← hpe] at hj; exact hj.elim
  | panic c => rw [← hpe] at hj; exact hj.elim
  | outgrown => rw [← hpe] at hj; exact hj.elim

theorem getO_app (B : List (Nat × Obj)) (n : Nat) : ∀ A : List (Nat × Obj), getO (A ++ B) n = match getO A n with
    | some o => some o
    | none => getO B n
  | [] => rfl
  | (i, v) :: l => by
    simp only [List.cons_append, getO]
    split
    · rfl
    · exact getO_app B n l
theorem getO_none : ∀ {os : List (Nat × Obj)} {n : Nat}, n ∉ os.map (·.1) → getO os n = none
  | [], _, _ => rfl
  | (i, v) :: l, n, h => by
    simp only [List.map_cons, List.mem_cons, not_or] at h
    simp only [getO]
    rw [if_neg h.1]
    exact getO_none h.2
theorem MR.less {m : Mem} {w : World} {ob ob' : Nat → Option Obj} (h : MR m w ob) (hs : ∀ n o, ob' n = some o → ob n = some o) : MR m w ob' :=
  ⟨h.imm, fun n o ho => h.obs n o (hs n o ho), fun n n' o o' x x' b h1 h2 => h.apart n n' o o' x x' b (hs n o h1) (hs n' o' h2)⟩
theorem own.more {m : Mem} {ob ob' : Nat → Option Obj} {b : Nat} (h : own m ob' b) (hs : ∀ n o, ob' n = some o → ob n = some o) : own m ob b := by
  obtain ⟨n, o, x, h1, h2⟩ := h
  exact ⟨n, o, x, hs n o h1, h2⟩
theorem preOk_same {ρ : Nat → Option (Option Nat)} {ob ob' : Nat → Option Obj} : ∀ {τ : List Nat} {pre : List Obj}, preOk ρ ob τ pre → (∀ n ∈ τ, ob' n = ob n) → preOk ρ ob' τ pre
  | [], [], _, _ => trivial
  | q :: τ, o :: l, h, he => by
    refine ⟨?_, preOk_same h.2 fun n hn => he n (List.mem_cons_of_mem _ hn)⟩
    rw [he q List.mem_cons_self]
    exact h.1
  | [], _ :: _, h, _ => h.elim
  | _ :: _, [], h, _ => h.elim
theorem app_back {ρ : Nat → Nat} {k : Nat} : ∀ (exs : List (Nat × Obj)) (pre : List Obj) (ob : Nat → Option Obj), nodup (exs.map (·.1)) = true → pre.map (renO ρ) = exs.map (·.2) → ∀ n, app ob (postCh ρ k (exs.map (·.1)) pre) n = match getO exs n with
    | some o => some o
    | none => ob n
  | [], pre, ob, _, h, n => by
    have : pre = [] := by simpa using h
    subst this
    rfl
  | (i, o) :: exs, pre, ob, hn, h, n => by
    cases pre with
    | nil => simp at h
    | cons o1 pre =>
      simp only [List.map_cons, List.cons.injEq] at h
      obtain ⟨rfl, h⟩ := h
      have hn' := nodup_spec hn
      simp only [List.map_cons, List.nodup_cons] at hn'
      simp only [List.map_cons, nodup, Bool.and_eq_true] at hn
      have ih := app_back (ρ := ρ) (k := k) exs pre (upd ob i (some (renO ρ o1))) hn.2 h n
      show app (upd ob i (some (renO ρ o1))) (postCh ρ k (exs.map (·.1)) pre) n = _
      rw [ih]
      simp only [getO]
      by_cases e : n = i
      · subst e
        rw [getO_none hn'.1, if_pos rfl]
        simp [upd]
      · rw [if_neg e]
        have : upd ob i (some (renO ρ o1)) n = ob n := by simp [upd, e]
        rw [this]
/-- **The statement.** -/
theorem range_sound {g : Operand} {ps : Array Tmp} {assign body : Code} (SA : WalkOk P eq assign) (SB : WalkOk P eq body) {as0 : AS} {Q : Exit → Nat → AS → Prop} (h : vc P eq (.rangeFunc g ps assign body) k as0 Q)
    {ro : Option Nat} {n s : Nat} {mz : Mem} {w : World} {a : Act} (hRz : Rel mz w as0 a) (hkz : Fr k mz) (hAz : Aux s ro w mz as0.ob a.defers) {Q' : Exit → Act → World → Prop} (hQz : ∀ e k' as' m' w' a', Q e k' as' → Lands s ro mz w as0.ob k' as' m' w' a' → Q' e a' w') :
    (Code.rangeFunc g ps assign body).wpIn (W ro) n P Q' a w := by
  obtain ⟨fr, as, has, hfz, h⟩ := h
  obtain ⟨m, hR, hEz, hbz⟩ := frzS_sound hRz hfz
  rw [← has] at hR hEz
  have hk : Fr k m := fun n hn => by rw [hbz]; exact hkz n hn
  have hA := hAz.ext hEz
  have hQ : ∀ e k' as' m' w' a', Q e k' as' → Lands s ro m w as.ob k' as' m' w' a' → Q' e a' w' := fun e k' as' m' w' a' hq hL => hQz e k' as' m' w' a' hq ⟨hL.1, hL.2.1, hEz.trans hL.2.2.1, hL.2.2.2⟩
  clear hRz hkz hAz hQz hbz hEz hfz has
  obtain ⟨it, bs, ι, tms, obs, exs, pre, pend, x0, y0, r, ⟨σ, hent⟩, ⟨hxk, hxn, hpre, hback, hxs⟩, hdis, hp0, hjy, hself, hV, hfin⟩ := h
  obtain ⟨m1, hR1, hE1, hfr1, htr1, hI1, hown1, hβ1⟩ := hent.sound hR hk (Ext.refl w m as.ob)
  obtain ⟨bs1, bs', A, St, hg, hlit, hbs, hit, hround⟩ := hV m.β (fun n o hn ho => by
    obtain ⟨v, hv, hat⟩ := hR1.mr.obs n o ho
    exact ⟨v, w, m1, by rw [← hβ1 n hn]; exact hv, hat⟩)
  obtain ⟨hl1, hlg1⟩ := eqrL_get hlit
  have hσ := hent.1
  have hgr := ev_rep hR g
  generalize hvg : a.eval g = vg at hgr
  obtain ⟨xs, fst, cap, hvf, hfc, hxl, hxr⟩ : ∃ (xs fst cap : Array Value), vg = .func (.func it) fst cap ∧ ((A = bs' ++ [.yl 0] ∧ fst = xs ∧ cap = #[]) ∨ (A = .yl 0 :: bs' ∧ fst = #[] ∧ cap = xs)) ∧ bs.length = xs.size ∧ ∀ i a, bs[i]? = some a → Rep w m a (xs.getD i undef) := by
    rcases hg with ⟨hg, hA⟩ | ⟨hg, hA⟩
    · rw [hg] at hgr
      cases hgr with
      | bf _ _ xs hxl hxr => exact ⟨xs, xs, #[], rfl, .inl ⟨hA, rfl, rfl⟩, hxl, hxr⟩
    · rw [hg] at hgr
      cases hgr with
      | fn _ _ xs hxl hxr => exact ⟨xs, #[], xs, rfl, .inr ⟨hA, rfl, rfl⟩, hxl, hxr⟩
  subst hvf
  refine wpIn_rangeFunc fun fn _ => ?_
  -- the record
  obtain ⟨dfr, mark, wd, henter, hl0, hheap0, hltr, hmark⟩ : ∃ (dfr : Nat) (mark : List Deferred) (wd : World),
      (Instr.enterLoop fn a.tmps ps assign body (W ro).round).run P w = .ok (wd.heap.size, mark) (wd.alloc (.loop { state := .ready, pending := none, fn := fn, tmps := a.tmps, params := ps, assign := assign, body := body, defers := dfr })) ∧
      w.heap.size ≤ wd.heap.size ∧ (∀ b, b < w.heap.size → wd.heap[b]? = w.heap[b]?) ∧ Later w wd ∧ (mark = [] ∨ ∃ r, mark = [{ target := .collected r, args := #[] }] ∧ w.heap.size ≤ r ∧ wd.heap[r]? = some (.deferred (some []))) := by
    cases ro with
    | none =>
      refine ⟨w.heap.size, _, w.alloc (.deferred (some [])), by rw [World.size_alloc]; exact run_enterLoop_outer fn a.tmps ps assign body, by rw [World.size_alloc]; omega, fun b hb => ?_, ⟨rfl, rfl, rfl, by rw [World.size_alloc]; omega⟩, .inr ⟨_, rfl, Nat.le_refl _, World.alloc_heap_new w _⟩⟩
      show (w.heap.push _)[b]? = _
      simp [Array.getElem?_push, Nat.ne_of_lt hb]
    | some l0 =>
      obtain ⟨r0, h1, _, _⟩ := hA.rnd l0 rfl
      refine ⟨r0.defers, [], w, ?_, Nat.le_refl _, fun _ _ => rfl, Later.refl _, .inl rfl⟩
      show (Instr.enterLoop fn a.tmps ps assign body (some l0)).run P w = _
      unfold Instr.enterLoop
      simp only [Sem.run_bind, run_getLoop h1, run_newObj_alloc, Result.andThen, Sem.run_pure]
  generalize hRdef : ({ state := .ready, pending := none, fn := fn, tmps := a.tmps, params := ps, assign := assign, body := body, defers := dfr } : Loop) = R0 at henter
  let l : Nat := wd.heap.size
  let w1 : World := wd.alloc (.loop R0)
  have hl1 : w1.heap[l]? = some (.loop R0) := World.alloc_heap_new wd _
  have hw1b : ∀ b, b < wd.heap.size → w1.heap[b]? = wd.heap[b]? := fun b hb => by
    show (wd.heap.push _)[b]? = _
    simp [Array.getElem?_push, Nat.ne_of_lt hb]
  have hw1 : ∀ b, b < w.heap.size → w1.heap[b]? = w.heap[b]? := fun b hb => (hw1b b (by omega)).trans (hheap0 b hb)
  have hw1s : w1.heap.size = wd.heap.size + 1 := World.size_alloc _ _
  have hlat1 : Later w w1 := hltr.trans ⟨rfl, rfl, rfl, by omega⟩
  let Y : Value := .func (.yield l) #[] #[]
  let F0 : Nat → Prop := fun b => own m1 (getO (obs x0)) b ∨ b = l
  -- the objects of the rounds, and those that are handed over
  have hmr1 : MR m1 w (getO (obs x0 ++ exs)) := hR1.mr
  have hexn : ∀ n o, getO exs n = some o → n ∈ exs.map (·.1) ∧ ∃ p ∈ exs, p = (n, o) := fun n o ho => by
    have := getO_mem ho
    exact ⟨List.mem_map.2 ⟨_, this, rfl⟩, _, this, rfl⟩
  have hdis' : ∀ x n, n ∈ exs.map (·.1) → getO (obs x) n = none := fun x n hn => by
    obtain ⟨p, hp, rfl⟩ := List.mem_map.1 hn
    exact hdis x p hp
  have hx1 : ∀ x n o, getO (obs x) n = some o → getO (obs x ++ exs) n = some o := fun x n o ho => by rw [getO_app, ho]
  have hx2 : ∀ x n o, getO exs n = some o → getO (obs x ++ exs) n = some o := fun x n o ho => by
    rw [getO_app, hdis' x n (hexn n o ho).1]
    exact ho
  have hmo : MR m1 w (getO (obs x0)) := hmr1.less (hx1 x0)
  have hme : MR m1 w (getO exs) := hmr1.less (hx2 x0)
  have hownlt : ∀ b, own m1 (getO (obs x0)) b → b < w.heap.size := fun b hb => own.lt hmo hb
  have hownle : ∀ b, own m1 (getO exs) b → b < w.heap.size := fun b hb => own.lt hme hb
  have hIlt : ∀ b, m1.I b → b < w.heap.size := hmr1.imm.lt
  have hnl : ¬ own m1 (getO (obs x0)) l := fun hb => by have := hownlt l hb; omega
  have hnIl : ¬ m1.I l := fun hb => by have := hIlt l hb; omega
  have hRF0 : RF k m a.tmps l R0 tms (obs x0) none m1 F0 w1 := by
    refine ⟨hmo.o.later (fun _ h => h) (fun b hb => hw1 b (hIlt b hb)) rfl rfl hlat1 (fun b hb => hw1 b (hownlt b hb)) (fun b hb => own.not_I hmo hb), fun t => ?_, fun b hb => by rw [hI1]; exact hb, fun b => Iff.rfl, hnl, ?_, fun q x hx => ?_, fun q hq => hfr1 q (by omega)⟩
    · have h0 : Rep w m1 (getT tms t) (a.tmps.getD t undef) := hR1.tm t
      have h1 : Rep w m (getT tms t) (a.tmps.getD t undef) := Rep.eqr (m := m1) (m' := m) (ρ := rn k []) hI1.symm (fun n n' h => by
          unfold rn at h
          split at h
          · rename_i hlt
            cases h
            exact (hβ1 _ hlt).symm
          · simp at h) (fun n' h => by
          unfold rn at h
          split at h
          · cases h
          · simp at h) h0 (tmsSelf_get (hself []) t)
      exact h1.ext (fun _ h => h) (fun b hb => hw1 b (hR.mr.imm b hb)) (fun _ _ h => h)
    · rw [hl1, ← hRdef]
      rfl
    · have hq : q < k := by
        rcases Nat.lt_or_ge q k with h | h
        · exact h
        · rw [hk q h] at hx; cases hx
      rw [hβ1 q hq]; exact hx
  have hmrc := hRF0.at ⟨fun b hb => by have := hIlt b hb; omega, hmr1.imm.tab.ext (fun _ h => h) (fun b hb => hw1 b (hIlt b hb))⟩ hnIl
  -- the caller's memory, in which the rounds are one object
  let q : Nat := k + 32
  let Φ : ι → Value → (Nat → Prop) → (Nat → Prop) → World → Prop := fun x => RΦ k m a.tmps l R0 tms (obs x) (pend x)
  let mq : Mem := ⟨m1.I, fun n => if n = q then some Y else m1.β n, fun n => if n = q then F0 else m1.φ n⟩
  let obq : Nat → Option Obj := fun n => if n = q then some (.opq (Φ x0)) else getO exs n
  have hβq : mq.β q = some Y := if_pos rfl
  have hβo : ∀ n, n ≠ q → mq.β n = m1.β n := fun n hn => if_neg hn
  have hφq : mq.φ q = F0 := by show (if q = q then F0 else m1.φ q) = F0; rw [if_pos rfl]
  have hφo : ∀ n, n ≠ q → mq.φ n = m1.φ n := fun n hn => by show (if n = q then F0 else m1.φ n) = m1.φ n; rw [if_neg hn]
  have hm1q : m1.β q = none := hfr1 q (by show k + σ.length ≤ k + 32; omega)
  have hoq : obq q = some (.opq (Φ x0)) := if_pos rfl
  have hoo : ∀ n, n ≠ q → obq n = getO exs n := fun n hn => if_neg hn
  have hxq : ∀ n, n ∈ exs.map (·.1) → n < k := fun n hn => by
    obtain ⟨p, hp, rfl⟩ := List.mem_map.1 hn
    exact hxk p hp
  have hxne : ∀ n, n ∈ exs.map (·.1) → n ≠ q := fun n hn e => by have h1 := hxq n hn; have h2 : q = k + 32 := rfl; omega
  have hfo : ∀ n x o b, n ≠ q → (foot mq n x o b ↔ foot m1 n x o b) := fun n x o b hn => by
    cases o with
    | opq Ψ => show mq.φ n b ↔ m1.φ n b; rw [hφo n hn]
    | _ => exact Iff.rfl
  have hFx : ∀ n o x b, getO exs n = some o → o.live = true → m1.β n = some x → F0 b → ¬ foot m1 n x o b := fun n o x b ho hl hx hF hf => by
    have hlt := hownle b ⟨n, o, x, ho, hl, hx, hf⟩
    rcases hF with ⟨n0, o0, y, h1, h2, h3, h4⟩ | rfl
    · have hne : n0 ≠ n := fun e => by
        subst e
        rw [hdis' x0 n0 (hexn n0 o ho).1] at h1
        cases h1
      exact hmr1.apart n0 n o0 o y x b (hx1 x0 n0 o0 h1) (hx2 x0 n o ho) h2 hl hne h3 hx h4 hf
    · omega
  have hmq : MR mq w1 obq := by
    refine ⟨⟨fun b hb => by have := hIlt b hb; omega, hmr1.imm.tab.ext (fun _ h => h) (fun b hb => hw1 b (hIlt b hb))⟩, fun n o ho => ?_, fun n n' o o' x x' b ho ho' hl hl' hne hx hx' hb hb' => ?_⟩
    · by_cases e : n = q
      · subst e
        rw [hoq] at ho
        cases ho
        obtain ⟨v, hv, hat⟩ := hmrc.obs 0 _ rfl
        cases hv
        refine ⟨Y, hβq, ?_⟩
        have hat' : OpqAt w1 (yM m1.I l F0) 0 Y (RΦ k m a.tmps l R0 tms (obs x0) none) := hat
        show OpqAt w1 mq q Y (RΦ k m a.tmps l R0 tms (obs x0) (pend x0))
        unfold OpqAt at hat' ⊢
        rw [yM_φ] at hat'
        rw [hφq, hp0]
        exact hat'
      · rw [hoo n e] at ho
        obtain ⟨v, hv, hat⟩ := hme.obs n o ho
        refine ⟨v, by rw [hβo n e]; exact hv, hat.later (fun _ h => h) (fun b hb => hw1 b (hIlt b hb)) (fun n x hx => ?_) hlat1 (hφo n e) (fun b hb => hw1 b (hat.blk_lt hb)) (fun b _ _ h => h)⟩
        have : n ≠ q := fun e => by rw [e, hm1q] at hx; cases hx
        rw [hβo n this]; exact hx
    · by_cases e : n = q
      · by_cases e' : n' = q
        · exact hne (e.trans e'.symm)
        · rw [e, hoq] at ho
          cases ho
          rw [hoo n' e'] at ho'
          rw [hβo n' e'] at hx'
          have hF : F0 b := by
            have : mq.φ n b := hb
            rw [e, hφq] at this
            exact this
          exact hFx n' o' x' b ho' hl' hx' hF ((hfo n' x' o' b e').1 hb')
      · rw [hoo n e] at ho
        rw [hβo n e] at hx
        by_cases e' : n' = q
        · rw [e', hoq] at ho'
          cases ho'
          have hF : F0 b := by
            have : mq.φ n' b := hb'
            rw [e', hφq] at this
            exact this
          exact hFx n o x b ho hl hx hF ((hfo n x o b e).1 hb)
        · rw [hoo n' e'] at ho'
          rw [hβo n' e'] at hx'
          exact hme.apart n n' o o' x x' b ho ho' hl hl' hne hx hx' ((hfo n x o b e).1 hb) ((hfo n' x' o' b e').1 hb')
  have hτ : (q :: exs.map (·.1)).Nodup := List.nodup_cons.2 ⟨fun h => hxne q h rfl, nodup_spec hxn⟩
  have hpre' : preOk (rt (q :: exs.map (·.1))) obq (q :: exs.map (·.1)) (.opq (Φ x0) :: pre) := by
    refine ⟨?_, preOk_same hpre fun n hn => hoo n (hxne n hn)⟩
    rw [hoq]
    exact rfl
  have hlnil : ∀ n ∈ ([] : List Nat), n ∉ (q :: exs.map (·.1)) ∧ ∃ o, obq n = some o := fun n hn => by simp at hn
  have hmc := callee_mr (ln := []) hmq hτ hpre' hlnil
  have hpl := (preOk_get hpre').1
  -- the function's contract
  have hR0a : R0.assign = assign := by rw [← hRdef]
  have hR0b : R0.body = body := by rw [← hRdef]
  have hR0t : R0.tmps = a.tmps := by rw [← hRdef]
  have hR0p : R0.params = ps := by rw [← hRdef]
  have hspec := hit Φ (fun hp => RΦ.shr hp) (fun x v I F w hh => by
    obtain ⟨_, β, φ, hh⟩ := hh
    exact ⟨⟨I, β, φ⟩, rfl, fun n u hu => hh.beta n u hu, hh.ob.obs⟩) fun x args y hxy => by
    obtain ⟨h1, h2, h3, args1, args', h4, h4', h5⟩ := hround x args y hxy
    show CbG P args [.opq (RΦ k m a.tmps l R0 tms (obs x) (pend x))] _ _
    rw [h1]
    refine RF.cb (args' := args') (by rw [hR0a]; exact SA) (by rw [hR0b]; exact SB) hR0t hk h2 (by rw [hR0p]; exact h3) h4 h4' ?_
    rw [hR0a, hR0b, hR0p, hR.size]
    exact h5
  obtain ⟨hcall, _, _, hspec⟩ := hspec
  obtain ⟨hbl, hbg⟩ := eqrL_get hbs
  have hYrep : Rep w1 (Callee mq obq [] (q :: exs.map (·.1))) (.yl 0) Y := .yl _ _ _ _ (by rw [callee_beta (i := 0) (q := q) rfl]; exact hβq)
  have hbrep : ∀ i b, bs'[i]? = some b → Rep w1 (Callee mq obq [] (q :: exs.map (·.1))) b (xs.getD i undef) := fun i b hb => by
    obtain ⟨c, hc, he⟩ := hbg i b hb
    obtain ⟨c0, hc0, he0⟩ := hlg1 i c hc
    have h1 : Rep w1 mq c (xs.getD i undef) := (he0 w m _ (fun _ _ h => h) (hxr i c0 hc0)).ext (fun b hb => by show m1.I b; rw [hI1]; exact hb) (fun b hb => hw1 b (hR.mr.imm b hb)) (fun n x hx => by
      have hn : n < k := by
        rcases Nat.lt_or_ge n k with h | h
        · exact h
        · rw [hk n h] at hx; cases hx
      rw [hβo n (by show n ≠ k + 32; omega), hβ1 n hn]
      exact hx)
    have h2 : Rep w1 ⟨mq.I, (Callee mq obq [] (q :: exs.map (·.1))).β, (Callee mq obq [] (q :: exs.map (·.1))).φ⟩ b (xs.getD i undef) := Rep.eqr2 (m := mq) (m' := ⟨mq.I, (Callee mq obq [] (q :: exs.map (·.1))).β, (Callee mq obq [] (q :: exs.map (·.1))).φ⟩) (ρ := rt (q :: exs.map (·.1))) rfl (fun n n' h => by
        unfold rt at h
        obtain ⟨q', hq, e⟩ := Option.map_eq_some_iff.1 h
        cases e
        exact callee_beta (ln := []) (ob := obq) hq) (fun n' h => by
        unfold rt at h
        obtain ⟨q', hq, e⟩ := Option.map_eq_some_iff.1 h
        cases e) h1 he
    exact h2.ext (fun _ h => .inl h) (fun _ _ => rfl) (fun _ _ h => h)
  have hAl : (fst ++ #[Y] ++ cap).size = A.length ∧ ∀ i b, A[i]? = some b → Rep w1 (Callee mq obq [] (q :: exs.map (·.1))) b ((fst ++ #[Y] ++ cap).getD i undef) := by
    rcases hfc with ⟨rfl, rfl, rfl⟩ | ⟨rfl, rfl, rfl⟩
    · refine ⟨by simp; omega, fun i b hb => ?_⟩
      rw [Array.append_empty]
      by_cases hi : i < bs'.length
      · rw [List.getElem?_append_left hi] at hb
        have h4 := hbrep i b hb
        rw [Array.getD_eq_getD_getElem?] at h4 ⊢
        rw [Array.getElem?_append_left (by omega)]
        exact h4
      · rw [List.getElem?_append_right (by omega)] at hb
        have hi2 : i = bs'.length := by
          rcases Nat.lt_or_ge bs'.length i with h | h
          · rw [List.getElem?_eq_none (by simp; omega)] at hb; cases hb
          · omega
        have hb2 : b = .yl 0 := by rw [hi2] at hb; simpa using hb.symm
        subst hb2
        have : (fst ++ #[Y]).getD i undef = Y := by
          rw [Array.getD_eq_getD_getElem?, Array.getElem?_append_right (by omega)]
          have : i - fst.size = 0 := by omega
          rw [this]
          rfl
        rw [this]
        exact hYrep
    · refine ⟨by simp; omega, fun i b hb => ?_⟩
      cases i with
      | zero =>
        have hb2 : b = .yl 0 := by simpa using hb.symm
        subst hb2
        have : ((#[] ++ #[Y] ++ cap : Array Value)).getD 0 undef = Y := by
          rw [Array.getD_eq_getD_getElem?, Array.getElem?_append_left (by simp)]
          rfl
        rw [this]
        exact hYrep
      | succ i =>
        have h4 := hbrep i b (by simpa using hb)
        rw [Array.getD_eq_getD_getElem?] at h4 ⊢
        rw [Array.getElem?_append_right (by simp)]
        have : i + 1 - (#[] ++ #[Y] : Array Value).size = i := by simp
        rw [this]
        exact h4
  have hcalls := hspec (Callee mq obq [] (q :: exs.map (·.1))) w1 (fst ++ #[Y] ++ cap) hmc (fun n hn => by
      show ((q :: exs.map (·.1))[n]?).bind mq.β = none
      rw [List.getElem?_eq_none (by omega)]
      rfl) hAl.1 hAl.2
  refine ⟨l, mark, w1, { target := .fn (.func it) cap, args := fst ++ #[Y] }, w1, it, _, w1, henter, ?_, fun _ _ => trivial, by simp only [invoke]; exact run_callFunc hcall _ w1, fun h => by simp [W, Fence.wide] at h, callsIn_W (hcalls.mono fun e w' he => ?_)⟩
  · simp only [resolve, hvg, Deferred.ofValue, Sem.run_pure, List.map_toArray, List.map_cons, List.map_nil]
    rfl
  · obtain ⟨v, m', rfl, _, hm, hext, hn'⟩ := he
    obtain ⟨m2, hm2, hE2, hβ2, _⟩ := call_chg (r := .un) (post := .opq (Φ y0) :: pre) (k := q + 1) hmq (fun n h2 h3 => by
        rw [hβo n (by omega)]
        exact hfr1 n (by have h2 : k + 32 + 1 ≤ n := h2; omega)) hτ (fun q' hq' => by
        rcases List.mem_cons.1 hq' with rfl | h
        · omega
        · have h1 := hxq q' h
          show q' < k + 32 + 1
          omega) hpre' hlnil (by simp) (by simp) (.inl rfl) hm hext hn'
    generalize hob2 : app obq (postCh (rb (q :: exs.map (·.1)) (q + 1)) (q + 1) (q :: exs.map (·.1)) (.opq (Φ y0) :: pre)) = ob2 at hm2 hE2
    have hob2v : ∀ n, ob2 n = match getO exs n with
        | some o => some o
        | none => upd obq q (some (.opq (Φ y0))) n := fun n => by
      rw [← hob2]
      exact app_back exs pre _ hxn hback n
    have hxqn : getO exs q = none := getO_none fun h => hxne q h rfl
    have h2q : ob2 q = some (.opq (Φ y0)) := by rw [hob2v, hxqn]; simp [upd]
    have h2x : ∀ n o, getO exs n = some o → ob2 n = some o := fun n o ho => by rw [hob2v, ho]
    have hb2q : m2.β q = some Y := by rw [hβ2 q (by omega)]; exact hβq
    have hb2k : ∀ n, n < k → m2.β n = m.β n := fun n hn => by
      rw [hβ2 n (by show ¬ (k + 32 + 1 ≤ n ∧ n < k + 32 + 1 + 8); omega), hβo n (by show n ≠ k + 32; omega), hβ1 n hn]
    obtain ⟨v2, hv2, hat2⟩ := hm2.obs q _ h2q
    rw [hb2q] at hv2
    cases hv2
    obtain ⟨⟨_, β, φ, hRF⟩, hFI, _⟩ := hat2
    let exn := exs.map (·.1)
    let m4 : Mem := ⟨m2.I, β, fun n => if n ∈ exn then m2.φ n else φ n⟩
    have hφ4x : ∀ n, n ∈ exn → m4.φ n = m2.φ n := fun n hn => by show (if n ∈ exn then m2.φ n else φ n) = _; rw [if_pos hn]
    have hφ4o : ∀ n, n ∉ exn → m4.φ n = φ n := fun n hn => by show (if n ∈ exn then m2.φ n else φ n) = _; rw [if_neg hn]
    have hlF : m2.φ q l := (hRF.hF l).2 (.inr rfl)
    have hnI4 : ¬ m4.I l := (hFI l hlF).2
    have hf4x : ∀ n x o b, n ∈ exn → (foot m4 n x o b ↔ foot m2 n x o b) := fun n x o b hn => by
      cases o with
      | opq Ψ => show m4.φ n b ↔ m2.φ n b; rw [hφ4x n hn]
      | _ => exact Iff.rfl
    have hf4o : ∀ n x o b, n ∉ exn → (foot m4 n x o b ↔ foot ⟨m2.I, β, φ⟩ n x o b) := fun n x o b hn => by
      cases o with
      | opq Ψ => show m4.φ n b ↔ φ n b; rw [hφ4o n hn]
      | _ => exact Iff.rfl
    have hcase : ∀ n o, getO (obs y0 ++ exs) n = some o → (n ∉ exn ∧ getO (obs y0) n = some o) ∨ (n ∈ exn ∧ getO exs n = some o) := fun n o ho => by
      rw [getO_app] at ho
      cases h0 : getO (obs y0) n with
      | some o' =>
        rw [h0] at ho
        refine .inl ⟨fun hn => ?_, ho⟩
        rw [hdis' y0 n hn] at h0
        cases h0
      | none =>
        rw [h0] at ho
        exact .inr ⟨(hexn n o ho).1, ho⟩
    have hβ4 : ∀ n x, n < k → m2.β n = some x → β n = some x := fun n x hn hx => hRF.beta n x (by rw [← hb2k n hn]; exact hx)
    have hF4 : ∀ n o x b, getO (obs y0) n = some o → o.live = true → β n = some x → foot ⟨m2.I, β, φ⟩ n x o b → m2.φ q b := fun n o x b h1 h2 h3 h4 => (hRF.hF b).2 (.inl ⟨n, o, x, h1, h2, h3, h4⟩)
    -- the value of an object that was handed over
    have hval : ∀ n o, getO exs n = some o → ∃ v, m2.β n = some v ∧ β n = some v ∧ ObAt w' m2 n v o := fun n o ho => by
      obtain ⟨v, hv, hat⟩ := hm2.obs n o (h2x n o ho)
      exact ⟨v, hv, hβ4 n v (hxq n (hexn n o ho).1) hv, hat⟩
    have hFx4 : ∀ n o x b, getO exs n = some o → o.live = true → m2.β n = some x → m2.φ q b → ¬ foot m2 n x o b := fun n o x b ho hl hx hF => hm2.apart q n _ o Y x b h2q (h2x n o ho) rfl hl (fun e => hxne n (hexn n o ho).1 e.symm) hb2q hx hF
    have hmr4' : MR m4 w' (getO (obs y0 ++ exs)) := by
      refine ⟨hm2.imm, fun n o ho => ?_, fun n n' o o' x x' b ho ho' hl hl' hne hx hx' hb hb' => ?_⟩
      · rcases hcase n o ho with ⟨h1, h2⟩ | ⟨h1, h2⟩
        · obtain ⟨v, hv, hat⟩ := hRF.ob.obs n o h2
          exact ⟨v, hv, hat.later (fun _ h => h) (fun _ _ => rfl) (fun _ _ h => h) (Later.refl _) (hφ4o n h1) (fun _ _ => rfl) (fun b _ _ h => h)⟩
        · obtain ⟨v, hv, hv', hat⟩ := hval n o h2
          refine ⟨v, hv', ?_⟩
          have hk1 := hxq n h1
          have h3 := (ObAt.eqO (m := m2) (m' := ⟨m2.I, fun n => if n < k then m2.β n else none, m2.φ⟩) (ρ := rn k []) (n := n) (n' := n) rfl (fun n n' h => by
              unfold rn at h
              split at h
              · rename_i hlt
                cases h
                show (if n < k then m2.β n else none) = m2.β n
                rw [if_pos hlt]
              · simp at h) (fun n' h => by
              unfold rn at h
              split at h
              · cases h
              · simp at h) rfl hat (hxs _ (getO_mem h2))).1
          refine h3.later (fun _ h => h) (fun _ _ => rfl) (fun n x hx => ?_) (Later.refl _) (hφ4x n h1) (fun _ _ => rfl) (fun b _ _ h => h)
          have hx' : (if n < k then m2.β n else none) = some x := hx
          split at hx'
          · rename_i hlt; exact hβ4 n x hlt hx'
          · cases hx'
      · rcases hcase n o ho with ⟨h1, h2⟩ | ⟨h1, h2⟩
        · have hb1 := (hf4o n x o b h1).1 hb
          rcases hcase n' o' ho' with ⟨h1', h2'⟩ | ⟨h1', h2'⟩
          · exact hRF.ob.apart n n' o o' x x' b h2 h2' hl hl' hne hx hx' hb1 ((hf4o n' x' o' b h1').1 hb')
          · obtain ⟨v, hv, hv', _⟩ := hval n' o' h2'
            have : x' = v := Option.some.inj (hx'.symm.trans hv')
            subst this
            exact hFx4 n' o' x' b h2' hl' hv (hF4 n o x b h2 hl hx hb1) ((hf4x n' x' o' b h1').1 hb')
        · obtain ⟨v, hv, hv', _⟩ := hval n o h2
          have : x = v := Option.some.inj (hx.symm.trans hv')
          subst this
          have hb1 := (hf4x n x o b h1).1 hb
          rcases hcase n' o' ho' with ⟨h1', h2'⟩ | ⟨h1', h2'⟩
          · exact hFx4 n o x b h2 hl hv (hF4 n' o' x' b h2' hl' hx' ((hf4o n' x' o' b h1').1 hb')) hb1
          · obtain ⟨v', hv2, hv2', _⟩ := hval n' o' h2'
            have : x' = v' := Option.some.inj (hx'.symm.trans hv2')
            subst this
            exact hm2.apart n n' o o' x x' b (h2x n o h2) (h2x n' o' h2') hl hl' hne hv hv2 hb1 ((hf4x n' x' o' b h1').1 hb')
    have hown4 : ∀ b, own m4 (getO (obs y0 ++ exs)) b → own m2 ob2 b := fun b hb => by
      obtain ⟨n, o, x, ho, hl, hx, hf⟩ := hb
      rcases hcase n o ho with ⟨h1, h2⟩ | ⟨h1, h2⟩
      · exact ⟨q, _, Y, h2q, rfl, hb2q, hF4 n o x b h2 hl hx ((hf4o n x o b h1).1 hf)⟩
      · obtain ⟨v, hv, hv', _⟩ := hval n o h2
        have : x = v := Option.some.inj (hx.symm.trans hv')
        subst this
        exact ⟨n, o, x, h2x n o h2, hl, hv, (hf4x n x o b h1).1 hf⟩
    have hno4l : ¬ own m4 (getO (obs y0 ++ exs)) l := fun hb => by
      obtain ⟨n, o, x, ho, hl, hx, hf⟩ := hb
      rcases hcase n o ho with ⟨h1, h2⟩ | ⟨h1, h2⟩
      · exact hRF.nl ⟨n, o, x, h2, hl, hx, (hf4o n x o l h1).1 hf⟩
      · obtain ⟨v, hv, hv', _⟩ := hval n o h2
        have : x = v := Option.some.inj (hx.symm.trans hv')
        subst this
        exact hFx4 n o x l h2 hl hv hlF ((hf4x n x o l h1).1 hf)
    have hend := run_endLoop (P := P) hRF.rc (by cases (pend y0) <;> simp)
    generalize hw4 : w'.putObj l _ = w4 at hend
    have hw4l : Later w' w4 := by rw [← hw4]; exact later_put _ _ _
    have hw4b : ∀ b, b ≠ l → w4.heap[b]? = w'.heap[b]? := fun b hb => by rw [← hw4]; exact World.putObj_heap_other hb
    have hmr4 : MR m4 w4 (getO (obs y0 ++ exs)) := by rw [← hw4]; exact hmr4'.put hno4l hnI4
    have hownq : ∀ b, own mq obq b → own m as.ob b ∨ w.heap.size ≤ b := fun b hb => by
      obtain ⟨n, o, x, ho, hl, hx, hf⟩ := hb
      by_cases e : n = q
      · rw [e, hoq] at ho
        cases ho
        have hF : mq.φ n b := hf
        rw [e, hφq] at hF
        rcases hF with hF | rfl
        · exact .inl (hown1 b (own.more hF (hx1 x0)))
        · exact .inr hl0
      · rw [hoo n e] at ho
        rw [hβo n e] at hx
        exact .inl (hown1 b ⟨n, o, x, hx2 x0 n o ho, hl, hx, (hfo n x o b e).1 hf⟩)
    have hE : Ext w m as.ob w4 m4 (getO (obs y0 ++ exs)) := by
      refine ⟨fun b hb => hE2.sub b (by show m1.I b; rw [hI1]; exact hb), fun b hb => ?_, fun b hb hno => ?_, fun b hb => ?_, fun n x hx => hRF.beta n x hx, fun b hb => ?_, ?_, ?_, ?_, ?_⟩
      · rcases hE2.grow b hb with h1 | h1 | h1
        · have h1 : m1.I b := h1
          exact .inl (by rw [← hI1]; exact h1)
        · rcases hownq b h1 with h2 | h2
          · exact .inr (.inl h2)
          · exact .inr (.inr h2)
        · exact .inr (.inr (by omega))
      · rw [hw4b b (by omega), hE2.keep b (by omega) (fun h => ?_), hw1 b hb]
        rcases hownq b h with h2 | h2
        · exact hno h2
        · omega
      · have hlt : b < w.heap.size := hR.mr.imm b hb
        rw [hw4b b (by omega), hE2.keepI b (by show m1.I b; rw [hI1]; exact hb), hw1 b hlt]
      · rcases hE2.owned b (hown4 b hb) with h1 | h1
        · exact hownq b h1
        · exact .inr (by omega)
      · exact hw4l.os.trans (hE2.os.trans hlat1.os)
      · exact hw4l.tape.trans (hE2.tape.trans hlat1.tape)
      · exact hw4l.output.trans (hE2.output.trans hlat1.output)
      · exact Nat.le_trans hlat1.size (Nat.le_trans hE2.size hw4l.size)
    have hA4 : Aux s ro w4 m4 (getO (obs y0 ++ exs)) (mark ++ a.defers) := by
      have hold := hA.ext hE
      rcases hmark with rfl | ⟨rr, rfl, hr1, hr2⟩
      · exact hold
      · have hrl : rr < wd.heap.size := lt_of_get hr2
        have hnq : ¬ own mq obq rr := fun h => by
          obtain ⟨n, o, x, ho, hl, hx, hf⟩ := h
          by_cases e : n = q
          · rw [e, hoq] at ho
            cases ho
            have hF : mq.φ n rr := hf
            rw [e, hφq] at hF
            rcases hF with hF | hF
            · have := hownlt rr hF; omega
            · omega
          · rw [hoo n e] at ho
            rw [hβo n e] at hx
            have := hownle rr ⟨n, o, x, ho, hl, hx, (hfo n x o rr e).1 hf⟩
            omega
        have hwr : w4.heap[rr]? = some (.deferred (some [])) := by
          rw [hw4b rr (by omega), hE2.keep rr (by omega) hnq, hw1b rr hrl]
          exact hr2
        have hno4 : ¬ own m4 (getO (obs y0 ++ exs)) rr := fun h => by
          rcases hE2.owned rr (hown4 rr h) with h1 | h1
          · exact hnq h1
          · omega
        have hnI4 : ¬ m4.I rr := fun h => by
          rcases hE2.grow rr h with h1 | h1 | h1
          · have := hIlt rr h1; omega
          · exact hnq h1
          · omega
        refine ⟨fun d hd => ?_, ?_, hold.sz, hold.rnd⟩
        · rcases List.mem_append.1 hd with hd | hd
          · have : d = { target := .collected rr, args := #[] } := by simpa using hd
            exact ⟨rr, this, by have := hA.sz; omega, hwr, hno4, hnI4⟩
          · exact hold.marks d hd
        · show List.Nodup (_ :: a.defers)
          rw [List.nodup_cons]
          refine ⟨fun hmem => ?_, hA.nd⟩
          obtain ⟨r2, h1, _, h3, _⟩ := hA.marks _ hmem
          have : r2 = rr := by
            injection h1 with h1
            injection h1 with h1
            exact h1.symm
          subst this
          have := lt_of_get h3
          omega
    have hR4 : Rel m4 w4 ((LS.mk tms (obs y0 ++ exs)).as as.N) { a with defers := mark ++ a.defers } := by
      refine ⟨hmr4, hR.size, fun t => ?_⟩
      rw [← hw4]
      exact ((show Rep w' ⟨m2.I, β, φ⟩ (getT tms t) (a.tmps.getD t undef) from hRF.tmR t).ext (m' := m4) (fun _ h => h) (fun _ _ => rfl) (fun _ _ h => h)).put hnI4
    have hL : Lands s ro m w as.ob (k + 32) ((LS.mk tms (obs y0 ++ exs)).as as.N) m4 w4 { a with defers := mark ++ a.defers } := ⟨hR4, fun q hq => hRF.fr q hq, hE, hA4⟩
    refine ⟨_, w4, hend, ?_⟩
    revert hfin hjy
    cases hpy : pend y0 with
    | none =>
      intro _ hfin
      exact hQ _ _ _ _ _ _ hfin hL
    | some e =>
      intro hjy hfin
      cases e with
      | ret => exact wpIn_ret (hQ _ _ _ _ _ _ hfin hL)
      | exit id => exact wpIn_exit (hQ _ _ _ _ _ _ hfin hL)
      | _ => exact hjy.elim
end
end Go.Proofs.YtciegkpjenjaeaaDoor.Ab
namespace Go.Proofs.YtciegkpjenjaeaaDoor.Ab
open Go Go.RowKit
set_option linter.unusedSimpArgs false
set_option linter.unusedVariables false

section
variable {P : Program} {eq : TypeId → Option (List Value)}

theorem vc_sound : ∀ (c : Code) (k : Nat) (as : AS) (Q : Exit → Nat → AS → Prop), drawsOk c = true → vc P eq c k as Q → ∀ {ro : Option Nat} {n s : Nat} {m : Mem} {w : World} {a : Act}, Rel m w as a → Fr k m → Aux s ro w m as.ob a.defers →
    ∀ {Q' : Exit → Act → World → Prop}, (∀ e k' as' m' w' a', Q e k' as' → Lands s ro m w as.ob k' as' m' w' a' → Q' e a' w') → c.wpIn (W ro) n P Q' a w := by
  intro c
  induction c with
  | skip => exact fun k as Q _ h ro n s m w a hR hk hd Q' hQ => wpIn_skip (hQ _ _ _ _ _ _ h ⟨hR, hk, Ext.refl _ _ _, hd⟩)
  | region id ops draw =>
    intro k as Q hok h ro n s m w a hR hk hd Q' hQ
    cases draw with
    | false =>
      refine wpIn_region ?_
      rw [show List.range ops.size = List.range' 0 ops.toList.length by rw [List.range_eq_range', Array.length_toList]]
      refine vcOps_sound (eq := eq) ops.toList 0 k as rfl h m w a hR hk hd fun as' m' w' a' hK hL => ?_
      rw [Array.length_toList] at hL
      exact hQ _ _ _ _ _ _ hK hL
    | true => exact draw_sound hok h hR hk hd fun as' m' w' a' hK hL => hQ _ _ _ _ _ _ hK hL
  | seq c d ihc ihd =>
    intro k as Q hok h ro n s m w a hR hk hd Q' hQ
    simp only [drawsOk, Bool.and_eq_true] at hok
    refine wpIn_seq (ihc k as _ hok.1 h hR hk hd fun e k' as' m' w' a' hq hL => ?_)
    cases e with
    | normal => exact ihd k' as' Q hok.2 hq hL.1 hL.2.1 hL.2.2.2 fun e k2 as2 m2 w2 a2 hq2 hL2 => hQ _ _ _ _ _ _ hq2 (hL.trans hL2)
    | _ => exact hQ _ _ _ _ _ _ hq hL
  | cond x c d ihc ihd =>
    intro k as Q hok h ro n s m w a hR hk hd Q' hQ
    simp only [drawsOk, Bool.and_eq_true] at hok
    simp only [vc, onCond] at h
    split at h
    · rename_i b hb
      have hx := ev_rep hR x
      rw [hb] at hx
      exact wpIn_cond_split (rep_v hx) (fun hbt => ihc k as Q hok.1 (h.1 hbt) hR hk hd hQ) (fun hbt => ihd k as Q hok.2 (h.2 hbt) hR hk hd hQ)
    · rename_i hb
      have hx := ev_rep hR x
      rw [hb] at hx
      generalize he : a.eval x = y at hx
      cases hx with
      | bl _ _ b h1 h2 =>
      exact wpIn_cond_split he (fun hbt => ihc k as Q hok.1 ((h.1 (h1 hbt)).1 trivial) hR hk hd hQ) (fun hbt => ihd k as Q hok.2 ((h.2 (h2 hbt)).2 trivial) hR hk hd hQ)
    · exact h.elim
  | block id c ih =>
    intro k as Q hok h ro n s m w a hR hk hd Q' hQ
    refine wpIn_block (ih k as _ hok h hR hk hd fun e k' as' m' w' a' hq hL => ?_)
    cases e with
    | exit j =>
      simp only at hq
      by_cases hj : j = id
      · rw [if_pos hj] at hq
        simp only [Exit.inBlock, hj, if_true]
        exact hQ _ _ _ _ _ _ hq hL
      · rw [if_neg hj] at hq
        simp only [Exit.inBlock, hj, if_false]
        exact hQ _ _ _ _ _ _ hq hL
    | _ => exact hQ _ _ _ _ _ _ hq hL
  | loop c ih =>
    intro k as Q hok h ro n s m w a hR hk hd Q' hQ
    obtain ⟨α, J, μ, x0, ⟨σ, h0⟩, hround⟩ := h
    -- the invariant
    let I : α → Act → World → Prop := fun x a' w' => ∃ m', Rel m' w' ((J x).as as.N) a' ∧ Fr (k + 32) m' ∧ Ext w m as.ob w' m' ((J x).as as.N).ob ∧ Aux s ro w' m' ((J x).as as.N).ob a'.defers
    have ent : ∀ {x : α} {σ : List (Option Nat)} {as' : AS} {m' : Mem} {w' : World} {a' : Act}, Ent k as' σ (J x) → as'.N = as.N → Rel m' w' as' a' → Ext w m as.ob w' m' as'.ob → Aux s ro w' m' as'.ob a'.defers → I x a' w' := fun {x σ as' m' w' a'} he hN hR' hE' hd' => by
      obtain ⟨m2, g1, g2, g3, _, g5, g6, _⟩ := he.sound hR' hk hE'
      rw [hN] at g1 g2 g6
      exact ⟨m2, g1, fun q hq => g3 q (by have := he.1; omega), g2, hd'.less g5 g6⟩
    refine wpIn_loop (fun a' w' => ∃ x, I x a' w') (fun a' w' => leastOf fun j => ∃ x, I x a' w' ∧ μ x = j) ⟨x0, ent h0 rfl hR (Ext.refl _ _ _) hd⟩ fun a1 w1 hI => ?_
    obtain ⟨x, hx⟩ := hI
    obtain ⟨⟨x1, ⟨m1, hR1, hk1, hE1, hd1⟩, hμ⟩, _⟩ := leastOf_spec (p := fun j => ∃ x, I x a1 w1 ∧ μ x = j) ⟨x, hx, rfl⟩
    refine ih (k + 32) ((J x1).as as.N) _ hok (hround x1) hR1 hk1 hd1 fun e k' as' m' w' a' hq hL => ?_
    have hE' := hE1.trans hL.2.2.1
    cases e with
    | normal =>
      obtain ⟨y, hy, hN, σ', he⟩ := hq
      have hIy := ent he hN hL.1 hE' hL.2.2.2
      refine ⟨⟨y, hIy⟩, ?_⟩
      have := (leastOf_spec (p := fun j => ∃ x, I x a' w' ∧ μ x = j) ⟨y, hIy, rfl⟩).2
      rw [← hμ]
      omega
    | _ => exact hQ _ _ _ _ _ _ hq ⟨hL.1, hL.2.1, hE', hL.2.2.2⟩
  | rangeFunc g ps c d ihc ihd =>
    intro k as Q hok h ro n s m w a hR hk hd Q' hQ
    simp only [drawsOk, Bool.and_eq_true] at hok
    exact range_sound (fun k as Q h => ihc k as Q hok.1 h) (fun k as Q h => ihd k as Q hok.2 h) h hR hk hd hQ
  | exit id => exact fun k as Q _ h ro n s m w a hR hk hd Q' hQ => wpIn_exit (hQ _ _ _ _ _ _ h ⟨hR, hk, Ext.refl _ _ _, hd⟩)
  | ret => exact fun k as Q _ h ro n s m w a hR hk hd Q' hQ => wpIn_ret (hQ _ _ _ _ _ _ h ⟨hR, hk, Ext.refl _ _ _, hd⟩)
  | _ => exact fun k as Q _ h => h.elim

end
end Go.Proofs.YtciegkpjenjaeaaDoor.Ab
namespace Go.Proofs.YtciegkpjenjaeaaDoor.Ab
open Go Go.RowKit
set_option linter.unusedSimpArgs false
set_option linter.unusedVariables false

/-- The state at a function's entry. -/
def idx : Nat → List Obj → List (Nat × Obj)
  | _, [] => []
  | j, o :: l => (j, o) :: idx (j + 1) l
def entry (args : List AV) (pre : List Obj) (N : Nat) : AS := { tm := fun t => args.getD t .un, ob := getO (idx 0 pre), N := N }

def resOne (P : Program) (as : AS) : ResultVar → Option (Prop × AV)
  | .tmp t => some (True, as.tm t)
  | .cell a t => pLoad P as t (as.tm a)
def resAll (P : Program) (as : AS) : List ResultVar → Option (Prop × List AV)
  | [] => some (True, [])
  | r :: l => match resOne P as r, resAll P as l with
    | some (p, v), some (q, vs) => some (p ∧ q, v :: vs)
    | _, _ => none
def resV : List AV → AV
  | [v] => v
  | l => .tup l

/-- What is asked at a function's end. -/
def Fin (P : Program) (rs : List ResultVar) (n : Nat) (r : AV) (post : List Obj) (as : AS) : Prop := match resAll P as rs with
  | some (p, vs) => p ∧ ∃ σ : List (Option Nat), n + σ.length ≤ post.length ∧ eqr (rn n σ) (resV vs) r ∧ Ent n as σ ⟨[], idx 0 post⟩
  | none => False

section
variable {P : Program} {m : Mem} {w : World} {as : AS} {a : Act}

theorem getO_idx : ∀ (objs : List Obj) (j n : Nat), getO (idx j objs) n = if j ≤ n then objs[n - j]? else none
  | [], j, n => by simp [idx, getO]
  | o :: l, j, n => by
    simp only [idx, getO]
    rw [getO_idx l (j + 1) n]
    by_cases h : n = j
    · subst h
      rw [if_pos rfl, if_pos (Nat.le_refl _), Nat.sub_self]
      rfl
    · rw [if_neg h]
      by_cases h2 : j + 1 ≤ n
      · rw [if_pos h2, if_pos (by omega)]
        have : n - j = (n - (j + 1)) + 1 := by omega
        rw [this, List.getElem?_cons_succ]
      · rw [if_neg h2, if_neg (by omega)]

theorem resOne_run (hR : Rel m w as a) {v : ResultVar} {p : Prop} {c : AV} (h : resOne P as v = some (p, c)) (hp : p) : ∃ x, (match v with
    | .tmp t => pure (a.tmps.getD t undef)
    | .cell b t => do loadVar t (← asAddr (a.tmps.getD b undef)) : Sem Value).run P w = .ok x w ∧ Rep w m c x := by
  cases v with
  | tmp t => cases h; exact ⟨_, rfl, hR.tm t⟩
  | cell b t =>
    obtain ⟨u, hu, hr⟩ := pLoad_run hR (P := P) h hp (hR.tm b)
    refine ⟨u, ?_, hr⟩
    simp only
    revert hu
    generalize a.tmps.getD b undef = y
    intro hu
    cases y <;> simp_all [Instr.loadAt, Instr.sureAddr, asAddr]
    rename_i o
    cases o <;> simp_all

theorem resAll_run (hR : Rel m w as a) : ∀ {l : List ResultVar} {p : Prop} {cs : List AV}, resAll P as l = some (p, cs) → p → ∃ xs : List Value, (l.mapM fun v => (match v with
    | .tmp t => pure (a.tmps.getD t undef)
    | .cell b t => do loadVar t (← asAddr (a.tmps.getD b undef)) : Sem Value)).run P w = .ok xs w ∧ cs.length = xs.length ∧ ∀ (i : Nat) c, cs[i]? = some c → Rep w m c (xs.getD i undef)
  | [], p, cs, h, hp => by cases h; exact ⟨[], rfl, rfl, fun i c hc => by simp at hc⟩
  | v :: l, p, cs, h, hp => by
    unfold resAll at h
    split at h
    · rename_i q c q' cs' h1 h2
      cases h
      obtain ⟨x, hx, hxr⟩ := resOne_run hR h1 hp.1
      obtain ⟨xs, hxs, hl, hr⟩ := resAll_run hR h2 hp.2
      refine ⟨x :: xs, ?_, by simp [hl], fun i c' hc => ?_⟩
      · rw [List.mapM_cons, Sem.run_bind, hx, Result.andThen_ok, Sem.run_bind, hxs, Result.andThen_ok]
        rfl
      · cases i with
        | zero => simp at hc; subst hc; simpa using hxr
        | succ i => simpa using hr i c' (by simpa using hc)
    · cases h

theorem results_run (hR : Rel m w as a) {fn : Func} {p : Prop} {cs : List AV} (h : resAll P as fn.results.toList = some (p, cs)) (hp : p) : ∃ x, (results fn a.tmps).run P w = .ok x w ∧ Rep w m (resV cs) x := by
  obtain ⟨xs, hx, hl, hr⟩ := resAll_run hR h hp
  have hm : (fn.results.mapM fun v => (match v with
    | .tmp t => pure (a.tmps.getD t undef)
    | .cell b t => do loadVar t (← asAddr (a.tmps.getD b undef)) : Sem Value)).run P w = .ok xs.toArray w := by
    rw [Array.mapM_eq_mapM_toList, Sem.run_map, hx]
    rfl
  have hres : (results fn a.tmps).run P w = .ok (if h : xs.toArray.size = 1 then xs.toArray[0] else .tuple xs.toArray) w := by
    unfold results
    rw [Sem.run_bind]
    erw [hm]
    rfl
  refine ⟨_, hres, ?_⟩
  clear hx hm hres h
  match cs, xs, hl, hr with
  | [c], [x], _, hr => simpa [resV] using hr 0 c rfl
  | [], [], _, _ => exact .tup _ _ rfl (fun i c hc => by simp at hc)
  | c :: c' :: cs, x :: x' :: xs, hl, hr =>
    have : ¬ ((x :: x' :: xs).toArray.size = 1) := by simp
    rw [dif_neg this]
    refine .tup _ _ (by simpa using hl) (fun i d hd => ?_)
    have := hr i d hd
    simpa [Array.getD_eq_getD_getElem?, List.getD_eq_getElem?_getD] using this

/-- The world behind the marks: what was there stands. -/
def Turned (s : Nat) (m : Mem) (ob : Nat → Option Obj) (w w' : World) : Prop := Later w w' ∧ ∀ b, b < s ∨ own m ob b ∨ m.I b → w'.heap[b]? = w.heap[b]?
theorem leaves_marks {s n : Nat} {fn : Func} {tmps : Array Value} {R : Ending → World → Prop} {ob : Nat → Option Obj} : ∀ (ds : List Deferred) (w : World), Aux s none w m ob ds →
    (∀ w', Turned s m ob w w' → ∃ v, (results fn tmps).run P w' = .ok v w' ∧ R (.returned v) w') → LeavesInM Fence.wide n P fn tmps R ds .returning w
  | [], w, _, h => h w ⟨Later.refl w, fun _ _ => rfl⟩
  | d :: ds, w, hA, h => by
    obtain ⟨r, h1, h2, h3, h4, h5⟩ := hA.marks d (by simp)
    have hnd := List.nodup_cons.1 hA.nd
    refine ⟨by simp, .inl ⟨r, _, by rw [h1], run_takeDeferred h3, leaves_marks (ob := ob) ds _ ⟨fun d' hd' => ?_, hnd.2, by simpa using hA.sz, fun l hl => by cases hl⟩ fun w' hw => h w' ⟨(later_put _ _ _).trans hw.1, fun b hb => ?_⟩⟩⟩
    · obtain ⟨r', g1, g2, g3, g4, g5⟩ := hA.marks d' (by simp [hd'])
      refine ⟨r', g1, g2, ?_, g4, g5⟩
      rw [World.putObj_heap_other (fun e => hnd.1 (by rw [h1, ← e, ← g1]; exact hd'))]
      exact g3
    · rw [hw.2 b hb]
      refine World.putObj_heap_other (fun e => ?_)
      subst e
      rcases hb with hb | hb | hb
      · omega
      · exact h4 hb
      · exact h5 hb
theorem Turned.rel {s : Nat} {w w' w0 : World} {m0 : Mem} {ob0 : Nat → Option Obj} {as : AS} {a : Act} (h : Turned s m as.ob w w') (hR : Rel m w as a) (hE : Ext w0 m0 ob0 w m as.ob) (hs : w0.heap.size ≤ s) (hi0 : ∀ b, m0.I b → b < w0.heap.size) : Rel m w' as a ∧ Ext w0 m0 ob0 w' m as.ob := by
  have hkI : ∀ b, m.I b → w'.heap[b]? = w.heap[b]? := fun b hb => h.2 b (.inr (.inr hb))
  refine ⟨⟨(hR.mr.o.later (fun _ h => h) hkI rfl rfl h.1 (fun b hb => h.2 b (.inr (.inl hb))) (fun b hb => own.not_I hR.mr hb)).mr ⟨fun b hb => Nat.lt_of_lt_of_le (hR.mr.imm b hb) h.1.size, hR.mr.imm.tab.ext (fun _ h => h) hkI⟩, hR.size, fun t => (hR.tm t).ext (fun _ h => h) hkI (fun _ _ h => h)⟩, ?_⟩
  refine ⟨hE.sub, hE.grow, fun b hb hn => (h.2 b (.inl (by omega))).trans (hE.keep b hb hn), fun b hb => (h.2 b (.inl (by have := hi0 b hb; omega))).trans (hE.keepI b hb), hE.beta, hE.owned, h.1.os.trans hE.os, h.1.tape.trans hE.tape, h.1.output.trans hE.output, Nat.le_trans hE.size h.1.size⟩

/-- **A function's contract.** -/
theorem spec_of {eq : TypeId → Option (List Value)} {f : FuncId} {fn : Func} {c : Code} {args : List AV} {pre post : List Obj} {r : AV} {N : Nat} {rs : List ResultVar} (hN : fn.ntmps = N) (hrs : fn.results.toList = rs) (hf : P.funcs[f]? = some fn) (hb : fn.body = some c) (hname : (fn.name == "runtime.NumGoroutine") = false) (hok : drawsOk c = true)
    (hargs : args.length ≤ N) (hp8 : pre.length ≤ 8) (hp : pre.length ≤ post.length) (hol : post.length ≤ pre.length + 8)
    (h : vc P eq c 8 (entry args pre N) fun e _ as' => (e = .ret ∨ e = .normal) ∧ Fin P rs pre.length r post as') : SpecG P f args pre r post := by
  subst hN hrs
  refine ⟨⟨fn, hf, hname, by rw [hb]; rfl⟩, hp, hol, fun m0 w vs hmr hfr hvs hrep => ?_⟩
  refine (callsIn_wide (n := 0)).1 (callsIn_of_wp_marks hf hb trivial ?_)
  have hidx : ∀ objs, getO (idx 0 objs) = obl objs := fun objs => by
    funext n
    rw [getO_idx]
    simp [obl]
  have hR : Rel m0 w (entry args pre fn.ntmps) { tmps := vs ++ Array.replicate (fn.ntmps - vs.size) undef, defers := [] } := by
    refine ⟨by show MR m0 w (getO (idx 0 pre)); rw [hidx]; exact hmr, by simp [entry]; omega, fun t => ?_⟩
    show Rep w m0 (args.getD t .un) _
    rw [List.getD_eq_getElem?_getD]
    cases ha : args[t]? with
    | none => exact .un _
    | some b =>
      have ht : t < vs.size := by
        rcases Nat.lt_or_ge t args.length with h | h
        · omega
        · rw [List.getElem?_eq_none h] at ha; cases ha
      have := hrep t b ha
      rw [Array.getD_eq_getD_getElem?] at this ⊢
      rw [Array.getElem?_append_left ht]
      exact this
  have := vc_sound c 8 _ _ hok h (ro := none) (n := 0) (s := w.heap.size) hR (fun n hn => hfr n (by omega)) (Aux.nil (Nat.le_refl _)) (Q' := bodyPostM Fence.wide 0 P fn fun e w' => ∃ v m', e = .returned v ∧ Rep w' m' r v ∧ MR m' w' (obl post) ∧ Ext w m0 (obl pre) w' m' (obl post) ∧ ∀ n, post.length ≤ n → m'.β n = none) (fun e k' as' m' w' a' hq hL => ?_)
  · exact this
  · obtain ⟨he, hfin⟩ := hq
    unfold Fin at hfin
    split at hfin
    · rename_i p cs hres
      obtain ⟨hp, σ, hσ, hr, hent⟩ := hfin
      have fin : LeavesInM Fence.wide 0 P fn a'.tmps (fun e w' => ∃ v m', e = .returned v ∧ Rep w' m' r v ∧ MR m' w' (obl post) ∧ Ext w m0 (obl pre) w' m' (obl post) ∧ ∀ n, post.length ≤ n → m'.β n = none) a'.defers .returning w' := by
        refine leaves_marks _ _ hL.2.2.2 fun w2 hw2 => ?_
        have hE0 := hL.2.2.1
        rw [show (entry args pre fn.ntmps).ob = obl pre from hidx pre] at hE0
        obtain ⟨hR2, hE⟩ := hw2.rel hL.1 hE0 (Nat.le_refl _) hmr.imm
        obtain ⟨x, hx, hxr⟩ := results_run hR2 hres hp
        obtain ⟨m2, g1, g2, g3, g4, _⟩ := hent.sound hR2 (fun n hn => hfr n hn : Fr pre.length m0) hE
        have hob : ((⟨[], idx 0 post⟩ : LS).as as'.N).ob = obl post := hidx post
        have hR3 := g1.mr
        rw [hob] at hR3 g2
        exact ⟨x, hx, x, m2, rfl, g4 _ _ _ hr hxr, hR3, g2, fun n hn => g3 n (by omega)⟩
      rcases he with rfl | rfl
      · exact fin
      · exact fin
    · exact hfin.elim

end
end Go.Proofs.YtciegkpjenjaeaaDoor.Ab
namespace Go.Proofs.YtciegkpjenjaeaaDoor.Ab
open Go Go.RowKit
set_option linter.unusedSimpArgs false
set_option linter.unusedVariables false

theorem upd_app {α : Type} (f : Nat → α) (j : Nat) (v : α) (i : Nat) : upd f j v i = if i = j then v else f i := rfl

/-- the element at a place (of a place beyond: whatever) -/
def nth {α : Type} [Inhabited α] (l : List α) (i : Nat) : α := l.getD i default
theorem nth_map {α : Type} [Inhabited α] (f : α → List DV) (l : List α) (i : Nat) (h : i < l.length) : (l.map f).getD i [] = f (nth l i) := by
  simp [nth, List.getD_eq_getElem?_getD, h]
/-- The two lists of a state, looked up at one place only. -/
def tmOf (l : List (Nat × AV)) (t : Nat) : AV := getT l t
def obOf (l : List (Nat × Obj)) (t : Nat) : Option Obj := getO l t
theorem as_eq (T : List (Nat × AV)) (O : List (Nat × Obj)) (N : Nat) : (LS.mk T O).as N = { tm := tmOf T, ob := obOf O, N := N } := rfl
theorem tmOf_nil (t : Nat) : tmOf [] t = .un := rfl
theorem tmOf_cons (i : Nat) (v : AV) (l : List (Nat × AV)) (t : Nat) : tmOf ((i, v) :: l) t = if t = i then v else tmOf l t := rfl
theorem obOf_nil (t : Nat) : obOf [] t = none := rfl
theorem obOf_cons (i : Nat) (v : Obj) (l : List (Nat × Obj)) (t : Nat) : obOf ((i, v) :: l) t = if t = i then some v else obOf l t := rfl

/-- Both ways of a condition; one, if it is known. -/
def onB (b want : Bool) (X Y : Prop) : Prop := (b = want → X) ∧ (b = !want → Y)
theorem onB_tt (X Y : Prop) : onB true true X Y = X := by simp [onB]
theorem onB_ff (X Y : Prop) : onB false false X Y = X := by simp [onB]
theorem onB_tf (X Y : Prop) : onB true false X Y = Y := by simp [onB]
theorem onB_ft (X Y : Prop) : onB false true X Y = Y := by simp [onB]
theorem onB_t (b : Bool) (X Y : Prop) : onB b true X Y = ((b = true → X) ∧ (b = false → Y)) := rfl
theorem onB_f (b : Bool) (X Y : Prop) : onB b false X Y = ((b = false → X) ∧ (b = true → Y)) := rfl

/-- What is still to come. -/
inductive Wk where
  | code (c : Code)
  | blk (id : Nat)
  | lp (B : AS → Prop)
  | asg (c : Code)
  | rd (B : Exit → AS → Prop)

def Qst (P : Program) (eq : TypeId → Option (List Value)) (R : AS → Prop) : List Wk → Exit → Nat → AS → Prop
  | [], e, _, as => (e = .ret ∨ e = .normal) ∧ R as
  | .code c :: st, e, k, as => match e with
    | .normal => vc P eq c k as (Qst P eq R st)
    | e => Qst P eq R st e k as
  | .blk id :: st, e, k, as => match e with
    | .exit j => if j = id then Qst P eq R st .normal k as else Qst P eq R st (.exit j) k as
    | e => Qst P eq R st e k as
  | .lp B :: st, e, k, as => match e with
    | .normal => B as
    | e => Qst P eq R st e k as
  | .asg c :: st, e, k, as => e = .normal ∧ vc P eq c k as (Qst P eq R st)
  | .rd B :: _, e, _, as => B e as

def goC (P : Program) (eq : TypeId → Option (List Value)) (R : AS → Prop) (c : Code) (st : List Wk) (k : Nat) (as : AS) : Prop := vc P eq c k as (Qst P eq R st)

/-- The record of a region whose order is drawn; none: the text's order. -/
abbrev Lg := Option (List (List Nat × List Nat))
def vcU (P : Program) (eq : TypeId → Option (List Value)) (ops : Array Oper) (lg : Lg) (k : Nat) (l : List Oper) (as : AS) (K : AS → Prop) : Prop := match lg with
  | none => vcOps P eq ops k l as K
  | some log => vcOpsD P eq ops k l log as K
def chkL (ops : Array Oper) (lg : Lg) (as : AS) (o : Op) (ch : List (Nat × Option Obj)) : Prop := match lg with
  | none => True
  | some log => chk ops log.length (fpt as o) (ch.map (·.1)) 0 log
def advL (lg : Lg) (as : AS) (o : Op) (ch : List (Nat × Option Obj)) : Lg := lg.map fun log => log ++ [(fpt as o, ch.map (·.1))]
def skpL (lg : Lg) : Lg := lg.map fun log => log ++ [([], [])]

def goO (P : Program) (eq : TypeId → Option (List Value)) (R : AS → Prop) (ops : Array Oper) (lg : Lg) (k : Nat) (l : List Oper) (st : List Wk) (k1 : Nat) (as : AS) : Prop :=
  vcU P eq ops lg k l as fun as' => Qst P eq R st .normal k1 as'

section
variable {P : Program} {eq : TypeId → Option (List Value)} {R : AS → Prop} {st : List Wk} {k : Nat} {as : AS}

theorem goC_skip : goC P eq R .skip st k as = Qst P eq R st .normal k as := rfl
theorem goC_ret : goC P eq R .ret st k as = Qst P eq R st .ret k as := rfl
theorem goC_exit (id : Nat) : goC P eq R (.exit id) st k as = Qst P eq R st (.exit id) k as := rfl
theorem goC_seq (c d : Code) : goC P eq R (.seq c d) st k as = goC P eq R c (.code d :: st) k as := by
  simp only [goC, vc]
  congr 1
theorem goC_block (id : Nat) (c : Code) : goC P eq R (.block id c) st k as = goC P eq R c (.blk id :: st) k as := by
  simp only [goC, vc]
  congr 1
def goIf (P : Program) (eq : TypeId → Option (List Value)) (R : AS → Prop) (v : AV) (c d : Code) (st : List Wk) (k : Nat) (as : AS) : Prop := onCond v (fun b => (b = true → goC P eq R c st k as) ∧ (b = false → goC P eq R d st k as))
theorem goC_cond (x : Operand) (c d : Code) : goC P eq R (.cond x c d) st k as = goIf P eq R (ev as x) c d st k as := rfl
theorem goIf_bool (b : Bool) (c d : Code) : goIf P eq R (.v (.bool b)) c d st k as = onB b true (goC P eq R c st k as) (goC P eq R d st k as) := rfl
theorem goIf_bl (ct cf : Prop) (c d : Code) : goIf P eq R (.bl ct cf) c d st k as = ((ct → goC P eq R c st k as) ∧ (cf → goC P eq R d st k as)) := by
  apply propext
  constructor
  · intro h; exact ⟨fun h1 => (h.1 h1).1 rfl, fun h2 => (h.2 h2).2 rfl⟩
  · rintro ⟨h1, h2⟩; exact ⟨fun h => ⟨fun _ => h1 h, fun h => (by cases h)⟩, fun h => ⟨fun h => (by cases h), fun _ => h2 h⟩⟩
theorem goIf_blN (ct cf : Prop) (c d : Code) : goIf P eq R (blN ct cf) c d st k as = ((ct → goC P eq R c st k as) ∧ (cf → goC P eq R d st k as)) := by
  unfold blN
  split
  · rename_i h
    rw [goIf_bool, onB_tt]
    apply propext
    exact ⟨fun h1 => ⟨fun _ => h1, fun h2 => absurd h2 h.2⟩, fun h1 => h1.1 h.1⟩
  · split
    · rename_i h
      rw [goIf_bool, onB_ft]
      apply propext
      exact ⟨fun h1 => ⟨fun h2 => absurd h2 h.2, fun _ => h1⟩, fun h1 => h1.2 h.1⟩
    · exact goIf_bl ct cf c d
theorem goC_region (id : Nat) (ops : Array Oper) : goC P eq R (.region id ops false) st k as = goO P eq R ops none k ops.toList st (k + 8 * ops.size) as := rfl
theorem goC_draw (id : Nat) (ops : Array Oper) : goC P eq R (.region id ops true) st k as = goO P eq R ops (some []) k ops.toList st (k + 8 * ops.size) as := rfl
theorem Qst_nil_ret : Qst P eq R [] .ret k as = R as := by simp [Qst]
theorem Qst_nil_normal : Qst P eq R [] .normal k as = R as := by simp [Qst]
theorem Qst_code_normal (c : Code) : Qst P eq R (.code c :: st) .normal k as = goC P eq R c st k as := rfl
theorem Qst_code_ret (c : Code) : Qst P eq R (.code c :: st) .ret k as = Qst P eq R st .ret k as := rfl
theorem Qst_code_exit (c : Code) (id : Nat) : Qst P eq R (.code c :: st) (.exit id) k as = Qst P eq R st (.exit id) k as := rfl
theorem Qst_blk_normal (id : Nat) : Qst P eq R (.blk id :: st) .normal k as = Qst P eq R st .normal k as := rfl
theorem Qst_blk_ret (id : Nat) : Qst P eq R (.blk id :: st) .ret k as = Qst P eq R st .ret k as := rfl
theorem Qst_blk_exit (id j : Nat) : Qst P eq R (.blk id :: st) (.exit j) k as = if j = id then Qst P eq R st .normal k as else Qst P eq R st (.exit j) k as := rfl
theorem Qst_lp_normal (B : AS → Prop) : Qst P eq R (.lp B :: st) .normal k as = B as := rfl
theorem Qst_lp_ret (B : AS → Prop) : Qst P eq R (.lp B :: st) .ret k as = Qst P eq R st .ret k as := rfl
theorem Qst_lp_exit (B : AS → Prop) (id : Nat) : Qst P eq R (.lp B :: st) (.exit id) k as = Qst P eq R st (.exit id) k as := rfl

theorem Qst_asg_normal (c : Code) : Qst P eq R (.asg c :: st) .normal k as = goC P eq R c st k as := by simp [Qst, goC]
theorem Qst_rd (B : Exit → AS → Prop) (e : Exit) : Qst P eq R (.rd B :: st) e k as = B e as := by cases e <;> rfl

/-- **A range over a function whose arguments, and the rounds', are told by where the objects lie.** -/
theorem goC_rangeV (fr : List Fz) (hfz : frzOk as fr) {g : Operand} {ps : Array Tmp} {assign body : Code} {it : FuncId} (bs : List AV) {ι : Type} (tms : List (Nat × AV)) (obs : ι → List (Nat × Obj)) (exs : List (Nat × Obj)) (pre : List Obj) (pend : ι → Option Exit) (x0 y0 : ι) (r : AV) (σ : List (Option Nat))
    (h0 : Ent k (frzS as fr) σ ⟨tms, obs x0 ++ exs⟩) (hxs : exsOk k exs pre) (hdis : ∀ x, ∀ p ∈ exs, getO (obs x) p.1 = none) (hp0 : pend x0 = none) (hjy : jumpOk (pend y0)) (hself : ∀ σ, tmsSelf (rn k σ) tms)
    (hV : ∀ V : Nat → Option Value, VOk k V (obs x0 ++ exs) → ∃ (bs1 bs' A : List AV) (St : ι → List AV → ι → Prop),
      (ev (frzS as fr) g = .bf it bs ∧ A = bs' ++ [.yl 0] ∨ ev (frzS as fr) g = .fn it bs ∧ A = .yl 0 :: bs') ∧ eqrL (lit V) bs bs1 ∧ eqrL (eqr2 (rt ((k + 32) :: exs.map (·.1)))) bs1 bs' ∧
      (∀ Φ : ι → Value → (Nat → Prop) → (Nat → Prop) → World → Prop, ((∀ x, ∀ p ∈ obs x, onlyO p.2) → Shr Φ) → Knows V obs Φ → (∀ x args y, St x args y → CbG P args [.opq (Φ x)] (.v (.bool (pend y).isNone)) [.opq (Φ y)]) → SpecG P it A (.opq (Φ x0) :: pre) r (.opq (Φ y0) :: pre)) ∧
      (∀ x args y, St x args y → pend x = none ∧ jumpOk (pend y) ∧ args.length = ps.size ∧ ∃ args1 args', eqrL (eqr2 (rt [])) args args1 ∧ eqrL (lit V) args1 args' ∧
        ∀ B : Exit → AS → Prop, (∀ e as' σ, pendOf e = pend y → Ent k as' σ ⟨[], obs y⟩ → B e as') → goC P eq R assign [.asg body, .rd B] (k + 32) (putAll ((LS.mk tms (obs x)).as as.N) ps.toList args')))
    (hfin : match pend y0 with
      | none => Qst P eq R st .normal (k + 32) ((LS.mk tms (obs y0 ++ exs)).as as.N)
      | some e => Qst P eq R st e (k + 32) ((LS.mk tms (obs y0 ++ exs)).as as.N)) : goC P eq R (.rangeFunc g ps assign body) st k as := by
  refine ⟨fr, frzS as fr, rfl, hfz, it, bs, ι, tms, obs, exs, pre, pend, x0, y0, r, ⟨σ, h0⟩, hxs, hdis, hp0, hjy, hself, fun V hVk => ?_, by rw [frzS_N]; exact hfin⟩
  obtain ⟨bs1, bs', A, St, g1, g2, g3, g4, hround⟩ := hV V hVk
  refine ⟨bs1, bs', A, St, g1, g2, g3, g4, fun x args y hxy => ?_⟩
  obtain ⟨h1, h2, h3, args1, args', h4, h4', h5⟩ := hround x args y hxy
  refine ⟨h1, h2, h3, args1, args', h4, h4', ?_⟩
  rw [frzS_N]
  have h6 := h5 (fun e as' => pendOf e = pend y ∧ ∃ σ, Ent k as' σ ⟨[], obs y⟩) (fun e as' σ he hs => ⟨he, σ, hs⟩)
  unfold goC at h6
  have e1 : Qst P eq R [.asg body, .rd (fun e as' => pendOf e = pend y ∧ ∃ σ, Ent k as' σ ⟨[], obs y⟩)] = fun e k1 as1 => e = .normal ∧ vc P eq body k1 as1 fun e k2 as2 => pendOf e = pend y ∧ ∃ σ, Ent k as2 σ ⟨[], obs y⟩ := by
    funext e k1 as1
    have e2 : Qst P eq R [.rd (fun e as' => pendOf e = pend y ∧ ∃ σ, Ent k as' σ ⟨[], obs y⟩)] = fun e k2 as2 => pendOf e = pend y ∧ ∃ σ, Ent k as2 σ ⟨[], obs y⟩ := by
      funext e k2 as2
      exact Qst_rd _ e
    rw [← e2]
    cases e <;> rfl
  rw [e1] at h6
  exact h6
/-- **A range over a function**, before which boxes are frozen. exs: what is handed to it beside the rounds (pre: as it sees it), and comes back as it was. -/
theorem goC_rangeF (fr : List Fz) (hfz : frzOk as fr) {g : Operand} {ps : Array Tmp} {assign body : Code} {it : FuncId} {bs bs' A : List AV} {ι : Type} (tms : List (Nat × AV)) (obs : ι → List (Nat × Obj)) (exs : List (Nat × Obj)) (pre : List Obj) (pend : ι → Option Exit) (St : ι → List AV → ι → Prop) (x0 y0 : ι) (r : AV) (σ : List (Option Nat))
    (hg : ev (frzS as fr) g = .bf it bs ∧ A = bs' ++ [.yl 0] ∨ ev (frzS as fr) g = .fn it bs ∧ A = .yl 0 :: bs') (hbs : eqrL (eqr2 (rt ((k + 32) :: exs.map (·.1)))) bs bs') (h0 : Ent k (frzS as fr) σ ⟨tms, obs x0 ++ exs⟩) (hxs : exsOk k exs pre) (hdis : ∀ x, ∀ p ∈ exs, getO (obs x) p.1 = none) (hp0 : pend x0 = none) (hjy : jumpOk (pend y0)) (hself : ∀ σ, tmsSelf (rn k σ) tms)
    (hit : ∀ Φ : ι → Value → (Nat → Prop) → (Nat → Prop) → World → Prop, ((∀ x, ∀ p ∈ obs x, onlyO p.2) → Shr Φ) → (∀ x args y, St x args y → CbG P args [.opq (Φ x)] (.v (.bool (pend y).isNone)) [.opq (Φ y)]) → SpecG P it A (.opq (Φ x0) :: pre) r (.opq (Φ y0) :: pre))
    (hround : ∀ x args y, St x args y → pend x = none ∧ jumpOk (pend y) ∧ args.length = ps.size ∧ ∃ args', eqrL (eqr2 (rt [])) args args' ∧
      ∀ B : Exit → AS → Prop, (∀ e as' σ, pendOf e = pend y → Ent k as' σ ⟨[], obs y⟩ → B e as') → goC P eq R assign [.asg body, .rd B] (k + 32) (putAll ((LS.mk tms (obs x)).as as.N) ps.toList args'))
    (hfin : match pend y0 with
      | none => Qst P eq R st .normal (k + 32) ((LS.mk tms (obs y0 ++ exs)).as as.N)
      | some e => Qst P eq R st e (k + 32) ((LS.mk tms (obs y0 ++ exs)).as as.N)) : goC P eq R (.rangeFunc g ps assign body) st k as := by
  refine goC_rangeV fr hfz bs tms obs exs pre pend x0 y0 r σ h0 hxs hdis hp0 hjy hself (fun V _ => ⟨bs, bs', A, St, hg, litL_refl V bs, hbs, fun Φ h1 _ h3 => hit Φ h1 h3, fun x args y hxy => ?_⟩) hfin
  obtain ⟨h1, h2, h3, args', h4, h5⟩ := hround x args y hxy
  exact ⟨h1, h2, h3, args', args', h4, litL_refl V args', h5⟩
/-- **A range over a function.** exs: what is handed to it beside the rounds (pre: as it sees it), and comes back as it was. -/
theorem goC_rangeX {g : Operand} {ps : Array Tmp} {assign body : Code} {it : FuncId} {bs bs' A : List AV} {ι : Type} (tms : List (Nat × AV)) (obs : ι → List (Nat × Obj)) (exs : List (Nat × Obj)) (pre : List Obj) (pend : ι → Option Exit) (St : ι → List AV → ι → Prop) (x0 y0 : ι) (r : AV) (σ : List (Option Nat))
    (hg : ev as g = .bf it bs ∧ A = bs' ++ [.yl 0] ∨ ev as g = .fn it bs ∧ A = .yl 0 :: bs') (hbs : eqrL (eqr2 (rt ((k + 32) :: exs.map (·.1)))) bs bs') (h0 : Ent k as σ ⟨tms, obs x0 ++ exs⟩) (hxs : exsOk k exs pre) (hdis : ∀ x, ∀ p ∈ exs, getO (obs x) p.1 = none) (hp0 : pend x0 = none) (hjy : jumpOk (pend y0)) (hself : ∀ σ, tmsSelf (rn k σ) tms)
    (hit : ∀ Φ : ι → Value → (Nat → Prop) → (Nat → Prop) → World → Prop, ((∀ x, ∀ p ∈ obs x, onlyO p.2) → Shr Φ) → (∀ x args y, St x args y → CbG P args [.opq (Φ x)] (.v (.bool (pend y).isNone)) [.opq (Φ y)]) → SpecG P it A (.opq (Φ x0) :: pre) r (.opq (Φ y0) :: pre))
    (hround : ∀ x args y, St x args y → pend x = none ∧ jumpOk (pend y) ∧ args.length = ps.size ∧ ∃ args', eqrL (eqr2 (rt [])) args args' ∧
      ∀ B : Exit → AS → Prop, (∀ e as' σ, pendOf e = pend y → Ent k as' σ ⟨[], obs y⟩ → B e as') → goC P eq R assign [.asg body, .rd B] (k + 32) (putAll ((LS.mk tms (obs x)).as as.N) ps.toList args'))
    (hfin : match pend y0 with
      | none => Qst P eq R st .normal (k + 32) ((LS.mk tms (obs y0 ++ exs)).as as.N)
      | some e => Qst P eq R st e (k + 32) ((LS.mk tms (obs y0 ++ exs)).as as.N)) : goC P eq R (.rangeFunc g ps assign body) st k as :=
  goC_rangeF [] trivial tms obs exs pre pend St x0 y0 r σ hg hbs h0 hxs hdis hp0 hjy hself hit hround hfin
theorem eqrL_rt0 {n : Nat} : ∀ {bs bs' : List AV}, eqrL (eqr2 (rt [])) bs bs' → eqrL (eqr2 (rt [n])) bs bs' := by
  have h0 : ∀ a b : AV, eqr0 (rt []) a b → eqr0 (rt [n]) a b := fun a b h => by
    unfold eqr0 at h ⊢
    split at h <;> simp_all [rt]
  have hL : ∀ l r : List AV, eqrL (eqr0 (rt [])) l r → eqrL (eqr0 (rt [n])) l r := fun l => by
    induction l with
    | nil => intro r h; cases r <;> exact h
    | cons a l ih => intro r h; cases r with
      | nil => exact h
      | cons b r => exact ⟨h0 a b h.1, ih r h.2⟩
  have h1 : ∀ a b : AV, eqr1 (rt []) a b → eqr1 (rt [n]) a b := fun a b h => by
    unfold eqr1 at h ⊢
    split at h
    · exact ⟨h.1, hL _ _ h.2⟩
    · exact h0 _ _ h
  have hL1 : ∀ l r : List AV, eqrL (eqr1 (rt [])) l r → eqrL (eqr1 (rt [n])) l r := fun l => by
    induction l with
    | nil => intro r h; cases r <;> exact h
    | cons a l ih => intro r h; cases r with
      | nil => exact h
      | cons b r => exact ⟨h1 a b h.1, ih r h.2⟩
  have h2 : ∀ a b : AV, eqr2 (rt []) a b → eqr2 (rt [n]) a b := fun a b h => by
    unfold eqr2 at h ⊢
    split at h
    · exact hL1 _ _ h
    · exact h1 _ _ h
  intro bs
  induction bs with
  | nil => intro r h; cases r <;> exact h
  | cons a l ih => intro r h; cases r with
    | nil => exact h
    | cons b r => exact ⟨h2 a b h.1, ih h.2⟩

/-- A range over a method value, or a function, that is not left before its end: n rounds. -/
theorem goC_rangeN {g : Operand} {ps : Array Tmp} {assign body : Code} {it : FuncId} {bs bs' : List AV} (n : Nat) (A A' : Nat → List AV) (tms : List (Nat × AV)) (obs : Nat → List (Nat × Obj)) (r : AV) (σ : List (Option Nat))
    (hg : ev as g = .bf it bs) (hbs : eqrL (eqr2 (rt [])) bs bs') (h0 : Ent k as σ ⟨tms, obs 0⟩) (hself : ∀ σ, tmsSelf (rn k σ) tms)
    (hit : ∀ Φ : Nat → Value → (Nat → Prop) → (Nat → Prop) → World → Prop, (∀ i, i < n → CbG P (A i) [.opq (Φ i)] (.v (.bool true)) [.opq (Φ (i + 1))]) → SpecG P it (bs' ++ [.yl 0]) [.opq (Φ 0)] r [.opq (Φ n)])
    (hA : ∀ i, i < n → (A i).length = ps.size ∧ eqrL (eqr2 (rt [])) (A i) (A' i))
    (hround : ∀ i, i < n → ∀ B : Exit → AS → Prop, (∀ as' σ, Ent k as' σ ⟨[], obs (i + 1)⟩ → B .normal as') → goC P eq R assign [.asg body, .rd B] (k + 32) (putAll ((LS.mk tms (obs i)).as as.N) ps.toList (A' i)))
    (hfin : Qst P eq R st .normal (k + 32) ((LS.mk tms (obs n)).as as.N)) : goC P eq R (.rangeFunc g ps assign body) st k as := by
  refine goC_rangeX (A := bs' ++ [.yl 0]) tms obs [] [] (fun _ => none) (fun i args j => i < n ∧ args = A i ∧ j = i + 1) 0 n r σ (.inl ⟨hg, rfl⟩) (eqrL_rt0 hbs) (by rw [List.append_nil]; exact h0) (exsOk_nil k) (fun x p hp => by simp at hp) rfl trivial hself (fun Φ _ h => hit Φ fun i hi => h i _ _ ⟨hi, rfl, rfl⟩) (fun i args j h => ?_) (by simp only [List.append_nil]; exact hfin)
  obtain ⟨hi, rfl, rfl⟩ := h
  refine ⟨rfl, trivial, (hA i hi).1, A' i, (hA i hi).2, fun B hB => hround i hi B fun as' σ h => hB .normal as' σ rfl h⟩

/-- **A loop.** -/
theorem goC_loop {c : Code} {α : Type} (J : α → LS) (μ : α → Nat) (x0 : α) (σ : List (Option Nat)) (h0 : Ent k as σ (J x0))
    (h : ∀ x (B : AS → Prop), (∀ (as' : AS) y σ, μ y < μ x → as'.N = as.N → Ent k as' σ (J y) → B as') → goC P eq R c (.lp B :: st) (k + 32) ((J x).as as.N)) : goC P eq R (.loop c) st k as := by
  refine ⟨α, J, μ, x0, ⟨σ, h0⟩, fun x => ?_⟩
  have hx := h x (fun as' => ∃ y, μ y < μ x ∧ as'.N = as.N ∧ ∃ σ, Ent k as' σ (J y)) (fun as' y σ h1 h2 h3 => ⟨y, h1, h2, σ, h3⟩)
  unfold goC at hx
  have e : (fun e k' as' => match e with
    | .normal => ∃ y, μ y < μ x ∧ as'.N = as.N ∧ ∃ σ, Ent k as' σ (J y)
    | e => Qst P eq R st e k' as' : Exit → Nat → AS → Prop) = Qst P eq R (.lp (fun as' => ∃ y, μ y < μ x ∧ as'.N = as.N ∧ ∃ σ, Ent k as' σ (J y)) :: st) := by
    funext e k' as'
    cases e <;> rfl
  rw [← e] at hx
  exact hx

variable {ops : Array Oper} {lg : Lg} {l : List Oper} {k1 : Nat}

theorem goO_nil : goO P eq R ops lg k [] st k1 as = Qst P eq R st .normal k1 as := by
  cases lg <;> rfl

/-- after an operation that is shown by the model itself -/
def semO (P : Program) (eq : TypeId → Option (List Value)) (R : AS → Prop) (ops : Array Oper) (lg : Lg) (k : Nat) (o : Op) (dst : Option Tmp) (l : List Oper) (st : List Wk) (k1 : Nat) (as : AS) : Prop :=
  vcSem P eq k as o fun ch r => chkL ops lg as o ch ∧ goO P eq R ops (advL lg as o ch) (k + 8) l st k1 ((as.chg ch).put dst r)
/-- after a pure operation -/
def onP (P : Program) (eq : TypeId → Option (List Value)) (R : AS → Prop) (ops : Array Oper) (lg : Lg) (k : Nat) (o : Op) (dst : Option Tmp) (l : List Oper) (st : List Wk) (k1 : Nat) (as : AS) (x : Option (Prop × AV)) : Prop := match x with
  | some (p, r) => p ∧ (p → chkL ops lg as o [] ∧ goO P eq R ops (advL lg as o []) (k + 8) l st k1 (as.put dst r))
  | none => semO P eq R ops lg k o dst l st k1 as
def onM (P : Program) (eq : TypeId → Option (List Value)) (R : AS → Prop) (ops : Array Oper) (lg : Lg) (k : Nat) (o : Op) (dst : Option Tmp) (l : List Oper) (st : List Wk) (k1 : Nat) (as : AS) (pre : List (Nat × Option Obj)) (x : Option (Prop × AV × List (Nat × Option Obj))) : Prop := match x with
  | some (p, r, set) => p ∧ (p → chkL ops lg as o (pre ++ set) ∧ goO P eq R ops (advL lg as o (pre ++ set)) (k + 8) l st k1 ((as.chg (pre ++ set)).put dst r))
  | none => semO P eq R ops lg k o dst l st k1 as
def onF (P : Program) (eq : TypeId → Option (List Value)) (R : AS → Prop) (ops : Array Oper) (lg : Lg) (k : Nat) (o : Op) (dst : Option Tmp) (l : List Oper) (st : List Wk) (k1 : Nat) (as : AS) (args : List AV) (x : AV) : Prop := match x with
  | .fn g cap => vcCall (SpecG P g) none k as (fpt as o) (args ++ cap) fun ch r => chkL ops lg as o ch ∧ goO P eq R ops (advL lg as o ch) (k + 8) l st k1 ((as.chg ch).put dst r)
  | .yl n => vcCall (CbG P) (some n) k as (fpt as o) args fun ch r => chkL ops lg as o ch ∧ goO P eq R ops (advL lg as o ch) (k + 8) l st k1 ((as.chg ch).put dst r)
  | _ => False
theorem onP_some (o : Op) (dst : Option Tmp) (p : Prop) (r : AV) : onP P eq R ops lg k o dst l st k1 as (some (p, r)) = (p ∧ (p → chkL ops lg as o [] ∧ goO P eq R ops (advL lg as o []) (k + 8) l st k1 (as.put dst r))) := rfl
/-- a load from an element of a slice whose rows are the images of a list -/
def elpMap (c : Prop) (ag : Bool) (k sz n : Nat) (row : List DV) (i off : Nat) : Option (Prop × AV) := some (c ∧ i < n ∧ off + k ≤ sz ∧ (ag = false → k = 1), mkVal ag (((row.drop off).take k).map ofD))
theorem onP_elp (o : Op) (dst : Option Tmp) (c : Prop) (ag : Bool) (k2 sz : Nat) {α : Type} [Inhabited α] (f : α → List DV) (L : List α) (i off : Nat) : onP P eq R ops lg k o dst l st k1 as (elpLoad c ag k2 sz (L.map f) i off) = onP P eq R ops lg k o dst l st k1 as (elpMap c ag k2 sz L.length (f (nth L i)) i off) := by
  unfold elpLoad elpMap onP
  simp only [List.length_map]
  apply propext
  constructor
  · rintro ⟨h1, h2⟩
    refine ⟨h1, fun h => ?_⟩
    have := h2 h
    rwa [nth_map f L i h.2.1] at this
  · rintro ⟨h1, h2⟩
    refine ⟨h1, fun h => ?_⟩
    rw [nth_map f L i h.2.1]
    exact h2 h
theorem onM_none (o : Op) (dst : Option Tmp) (pre : List (Nat × Option Obj)) : onM P eq R ops lg k o dst l st k1 as pre none = semO P eq R ops lg k o dst l st k1 as := rfl
theorem onP_none (o : Op) (dst : Option Tmp) : onP P eq R ops lg k o dst l st k1 as none = semO P eq R ops lg k o dst l st k1 as := rfl
theorem onM_some (o : Op) (dst : Option Tmp) (pre : List (Nat × Option Obj)) (p : Prop) (r : AV) (set : List (Nat × Option Obj)) : onM P eq R ops lg k o dst l st k1 as pre (some (p, r, set)) = (p ∧ (p → chkL ops lg as o (pre ++ set) ∧ goO P eq R ops (advL lg as o (pre ++ set)) (k + 8) l st k1 ((as.chg (pre ++ set)).put dst r))) := rfl

/-- The step that is to be taken, whatever the guard. -/
theorem no_nx {o : Oper} {K : List (Nat × Option Obj) → AV → Prop} (h : ∀ x, o.op ≠ .next x false) : vcNx as o K = False := by
  apply propext
  constructor
  · rintro ⟨it, n, p, left, last, ho, _⟩; exact h it ho
  · exact False.elim
theorem no_sem {op : Op} {K : List (Nat × Option Obj) → AV → Prop} (h : semOp op = false) : vcSem P eq k as op K = False := by
  apply propext
  constructor
  · rintro ⟨h1, _⟩; rw [h] at h1; cases h1
  · exact False.elim
theorem no_semP {op : Op} {K : List (Nat × Option Obj) → AV → Prop} {x : Prop × AV} (h : pureOp P eq as op = some x) : vcSem P eq k as op K = False := by
  apply propext
  constructor
  · rintro ⟨_, h1, _⟩; rw [h] at h1; cases h1
  · exact False.elim
theorem no_semM {op : Op} {K : List (Nat × Option Obj) → AV → Prop} {x : Prop × AV × List (Nat × Option Obj)} (h : opD P k (as.chg (frCh as.ob (frOf as op))) op = some x) : vcSem P eq k as op K = False := by
  apply propext
  constructor
  · rintro ⟨_, _, h1, _⟩; rw [h] at h1; cases h1
  · exact False.elim
theorem goO_plainN (o : Oper) (hg : o.guard = none) : goO P eq R ops none k (o :: l) st k1 as = (vcOp P eq k as o (fun ch r => goO P eq R ops none (k + 8) l st k1 ((as.chg ch).put o.dst r)) ∨ vcNx as o fun ch r => goO P eq R ops none (k + 8) l st k1 ((as.chg ch).put o.dst r)) := by
  show vcOps P eq ops k (o :: l) as (fun as' => Qst P eq R st .normal k1 as') = _
  rw [vcOps, hg]
  rfl
theorem goO_plainD (o : Oper) (hg : o.guard = none) (log : List (List Nat × List Nat)) : goO P eq R ops (some log) k (o :: l) st k1 as = vcOp P eq k as o fun ch r => chkL ops (some log) as o.op ch ∧ goO P eq R ops (advL (some log) as o.op ch) (k + 8) l st k1 ((as.chg ch).put o.dst r) := by
  show vcOpsD P eq ops k (o :: l) log as (fun as' => Qst P eq R st .normal k1 as') = _
  rw [vcOpsD, hg]
  rfl
theorem goO_plain (o : Oper) (hg : o.guard = none) (hn : ∀ x, o.op ≠ .next x false) : goO P eq R ops lg k (o :: l) st k1 as = vcOp P eq k as o fun ch r => chkL ops lg as o.op ch ∧ goO P eq R ops (advL lg as o.op ch) (k + 8) l st k1 ((as.chg ch).put o.dst r) := by
  cases lg with
  | none =>
    rw [goO_plainN o hg, no_nx hn, or_false]
    simp only [chkL, true_and, advL, Option.map_none]
  | some log => exact goO_plainD o hg log

variable {dst : Option Tmp} {ty : TypeId} {pos : String} {aft : Array Edge}

def onG (P : Program) (eq : TypeId → Option (List Value)) (R : AS → Prop) (ops : Array Oper) (lg : Lg) (k : Nat) (o : Oper) (t : Tmp) (want : Bool) (l : List Oper) (st : List Wk) (k1 : Nat) (as : AS) (x : AV) : Prop :=
  onBool x (fun b => (b = want → goO P eq R ops lg k (o :: l) st k1 (as.know t want)) ∧ (b = !want → goO P eq R ops (skpL lg) (k + 8) l st k1 ((as.know t !want).put o.dst (.v undef)))) (goO P eq R ops (skpL lg) (k + 8) l st k1 (as.put o.dst (.v undef)))
def onGd (P : Program) (eq : TypeId → Option (List Value)) (R : AS → Prop) (ops : Array Oper) (lg : Lg) (k : Nat) (o : Oper) (want : Bool) (l : List Oper) (st : List Wk) (k1 : Nat) (as : AS) (x : Option Tmp) : Prop := match x with
  | some t => onG P eq R ops lg k o t want l st k1 as (as.tm t)
  | none => False
theorem onGd_some (o : Oper) (want : Bool) (t : Tmp) : onGd P eq R ops lg k o want l st k1 as (some t) = onG P eq R ops lg k o t want l st k1 as (as.tm t) := rfl
theorem onG_bool (o : Oper) (t : Tmp) (want b : Bool) : onG P eq R ops lg k o t want l st k1 as (.v (.bool b)) = onB b want (goO P eq R ops lg k (o :: l) st k1 (as.know t want)) (goO P eq R ops (skpL lg) (k + 8) l st k1 ((as.know t !want).put o.dst (.v undef))) := rfl
theorem onG_undef (o : Oper) (t : Tmp) (want : Bool) (x : Array Value) : onG P eq R ops lg k o t want l st k1 as (.v (.tuple x)) = goO P eq R ops (skpL lg) (k + 8) l st k1 (as.put o.dst (.v undef)) := rfl
theorem goO_guard (op : Op) (j : Nat) (want : Bool) : goO P eq R ops lg k (⟨dst, op, ty, pos, aft, some (j, want)⟩ :: l) st k1 as = onGd P eq R ops lg k ⟨dst, op, ty, pos, aft, none⟩ want l st k1 as (gdst ops j) := by
  unfold onGd
  cases lg with
  | none =>
    rw [show goO P eq R ops none k (⟨dst, op, ty, pos, aft, some (j, want)⟩ :: l) st k1 as = vcOps P eq ops k (⟨dst, op, ty, pos, aft, some (j, want)⟩ :: l) as (fun as' => Qst P eq R st .normal k1 as') from rfl, vcOps]
    simp only
    cases gdst ops j with
    | none => rfl
    | some t =>
      simp only [onG]
      rw [goO_plainN _ rfl]
      rfl
  | some log =>
    rw [show goO P eq R ops (some log) k (⟨dst, op, ty, pos, aft, some (j, want)⟩ :: l) st k1 as = vcOpsD P eq ops k (⟨dst, op, ty, pos, aft, some (j, want)⟩ :: l) log as (fun as' => Qst P eq R st .normal k1 as') from rfl, vcOpsD]
    simp only
    cases gdst ops j with
    | none => rfl
    | some t =>
      simp only [onG]
      rw [goO_plainD _ rfl]
      rfl

theorem no_cut {o : Oper} {K : List (Nat × Option Obj) → AV → Prop} (hns : ∀ t x h, o.op ≠ .slice t x none (some h) none) : vcCut P k as o K = False := by
  apply propext
  constructor
  · rintro ⟨t, x, h, n, len, e, e', sz, rows, kh, hv, ho, _⟩; exact hns t x h ho
  · exact False.elim
theorem no_alt {o : Oper} {K : List (Nat × Option Obj) → AV → Prop} (hns : ∀ t x h, o.op ≠ .slice t x none (some h) none) (hl : ∀ t x, o.op ≠ .load t x) (he : ∀ x, o.op ≠ .entry x) : (vcCut P k as o K ∨ vcLdo P as o K ∨ vcEnt as o K ∨ vcSem P eq k as o.op K) = vcSem P eq k as o.op K := by
  rw [no_cut hns, false_or]
  apply propext
  constructor
  · rintro (⟨t, x, b, off, val, Φ, ho, _⟩ | ⟨it, n, p, left, x, ho, _⟩ | h)
    · exact (hl t x ho).elim
    · exact (he it ho).elim
    · exact h
  · exact fun h => .inr (.inr h)
theorem eq_onP {o : Oper} (hc : calleeOf o.op = none) (hd : ∀ k s, opD P k s o.op = none) (hg : o.guard = none) (hns : ∀ t x h, o.op ≠ .slice t x none (some h) none := by intro t x h hh; cases hh) (hl : ∀ t x, o.op ≠ .load t x := by intro t x hh; cases hh) (he : ∀ x, o.op ≠ .entry x := by intro x hh; cases hh) (hn : ∀ x, o.op ≠ .next x false := by intro x hh; cases hh) : goO P eq R ops lg k (o :: l) st k1 as = onP P eq R ops lg k o.op o.dst l st k1 as (pureOp P eq as o.op) := by
  rw [goO_plain o hg hn]
  simp only [vcOp, hc, hd, onMem, no_alt hns hl he]
  cases h : pureOp P eq as o.op with
  | none => simp only [onPure, onP, semO, false_or]
  | some x =>
    rw [no_semP h, or_false]
    rfl
theorem eq_onM {o : Oper} (hc : calleeOf o.op = none) (hp : pureOp P eq as o.op = none) (hg : o.guard = none) (hns : ∀ t x h, o.op ≠ .slice t x none (some h) none := by intro t x h hh; cases hh) (hl : ∀ t x, o.op ≠ .load t x := by intro t x hh; cases hh) (he : ∀ x, o.op ≠ .entry x := by intro x hh; cases hh) (hn : ∀ x, o.op ≠ .next x false := by intro x hh; cases hh) : goO P eq R ops lg k (o :: l) st k1 as = onM P eq R ops lg k o.op o.dst l st k1 as (frCh as.ob (frOf as o.op)) (opD P k (as.chg (frCh as.ob (frOf as o.op))) o.op) := by
  rw [goO_plain o hg hn]
  simp only [vcOp, hc, hp, onPure, no_alt hns hl he]
  cases h : opD P k (as.chg (frCh as.ob (frOf as o.op))) o.op with
  | none => simp only [onMem, onM, semO, false_or]
  | some x =>
    rw [no_semM h, or_false]
    rfl

theorem goO_move (x : Operand) : goO P eq R ops lg k (⟨dst, .move x, ty, pos, aft, none⟩ :: l) st k1 as = onP P eq R ops lg k (.move x) dst l st k1 as (some (True, ev as x)) := eq_onP rfl (fun _ _ => rfl) rfl
theorem goO_assign (x : Operand) : goO P eq R ops lg k (⟨dst, .assign x, ty, pos, aft, none⟩ :: l) st k1 as = onP P eq R ops lg k (.assign x) dst l st k1 as (some (True, ev as x)) := eq_onP rfl (fun _ _ => rfl) rfl
def pPick (c x y : AV) : Option (Prop × AV) := match c with
  | .v (.bool b) => pickV b x y
  | _ => none
theorem goO_clip (t : TypeId) (x h mx : Operand) : goO P eq R ops lg k (⟨dst, .slice t x none (some h) (some mx), ty, pos, aft, none⟩ :: l) st k1 as = onP P eq R ops lg k (.slice t x none (some h) (some mx)) dst l st k1 as (pClip P t (ev as x) (ev as h) (ev as mx)) := eq_onP rfl (fun _ _ => rfl) rfl
theorem goO_pick (c x y : Operand) : goO P eq R ops lg k (⟨dst, .pick c x y, ty, pos, aft, none⟩ :: l) st k1 as = onP P eq R ops lg k (.pick c x y) dst l st k1 as (pPick (ev as c) (ev as x) (ev as y)) := eq_onP rfl (fun _ _ => rfl) rfl
theorem goO_nilCheck (x : Operand) : goO P eq R ops lg k (⟨dst, .nilCheck x, ty, pos, aft, none⟩ :: l) st k1 as = onP P eq R ops lg k (.nilCheck x) dst l st k1 as (pNil (ev as x)) := eq_onP rfl (fun _ _ => rfl) rfl
theorem goO_binOp (op : BinOp) (t t' : TypeId) (x y : Operand) : goO P eq R ops lg k (⟨dst, .binOp op t x y t', ty, pos, aft, none⟩ :: l) st k1 as = onP P eq R ops lg k (.binOp op t x y t') dst l st k1 as (pBin P eq op t (ev as x) (ev as y)) := eq_onP rfl (fun _ _ => rfl) rfl
theorem goO_unOp (op : UnOp) (t : TypeId) (x : Operand) : goO P eq R ops lg k (⟨dst, .unOp op t x, ty, pos, aft, none⟩ :: l) st k1 as = onP P eq R ops lg k (.unOp op t x) dst l st k1 as (pUn op (ev as x)) := eq_onP rfl (fun _ _ => rfl) rfl
theorem goO_convert (s t : TypeId) (x : Operand) : goO P eq R ops lg k (⟨dst, .convert s t x, ty, pos, aft, none⟩ :: l) st k1 as = onP P eq R ops lg k (.convert s t x) dst l st k1 as (pConv P s t (ev as x)) := eq_onP rfl (fun _ _ => rfl) rfl
/-- a load: through a pointer into the objects, or out of what an opaque object says -/
def onLd (P : Program) (eq : TypeId → Option (List Value)) (R : AS → Prop) (ops : Array Oper) (lg : Lg) (k : Nat) (t : TypeId) (x : Operand) (dst : Option Tmp) (l : List Oper) (st : List Wk) (k1 : Nat) (as : AS) (v : AV) : Prop := match v with
  | .kp b off => ∃ (val : Value) (Φ : Value → (Nat → Prop) → (Nat → Prop) → World → Prop), tyc P t = some (false, 1) ∧ as.ob 0 = some (.opq Φ) ∧ (∀ v I F w, Φ v I F w → w.cell? ⟨b, off, none⟩ = some val) ∧ chkL ops lg as (.load t x) [] ∧ goO P eq R ops (advL lg as (.load t x) []) (k + 8) l st k1 (as.put dst (.v val))
  | v => onP P eq R ops lg k (.load t x) dst l st k1 as (pLoad P as t v)
theorem onLd_ptr (t : TypeId) (x : Operand) (n off : Nat) : onLd P eq R ops lg k t x dst l st k1 as (.ptr n off) = onP P eq R ops lg k (.load t x) dst l st k1 as (pLoad P as t (.ptr n off)) := rfl
theorem onLd_elp (t : TypeId) (x : Operand) (sz : Nat) (rows : List (List DV)) (i off : Nat) : onLd P eq R ops lg k t x dst l st k1 as (.elp sz rows i off) = onP P eq R ops lg k (.load t x) dst l st k1 as (pLoad P as t (.elp sz rows i off)) := rfl
theorem onLd_obp (t : TypeId) (x : Operand) (n sz i off : Nat) : onLd P eq R ops lg k t x dst l st k1 as (.obp n sz i off) = onP P eq R ops lg k (.load t x) dst l st k1 as (pLoad P as t (.obp n sz i off)) := rfl
theorem goO_load (t : TypeId) (x : Operand) : goO P eq R ops lg k (⟨dst, .load t x, ty, pos, aft, none⟩ :: l) st k1 as = onLd P eq R ops lg k t x dst l st k1 as (ev as x) := by
  have hse : ∀ K, vcSem P eq k as (.load t x) K = False := fun K => no_sem rfl
  rw [goO_plain _ rfl (fun x hh => by cases hh)]
  have hA : ∀ K, (∀ b off, ev as x ≠ .kp b off) → (vcCut P k as ⟨dst, .load t x, ty, pos, aft, none⟩ K ∨ vcLdo P as ⟨dst, .load t x, ty, pos, aft, none⟩ K ∨ vcEnt as ⟨dst, .load t x, ty, pos, aft, none⟩ K) = False := fun K hn => by
    apply propext
    constructor
    · rintro (⟨t', x', h', n, len, e, e', sz, rows, kh, hv, ho, _⟩ | ⟨t', x', b, off, val, Φ, ho, hx, _⟩ | ⟨it, n, p, left, x', ho, _⟩)
      · cases ho
      · cases ho; exact hn _ _ hx
      · cases ho
    · exact False.elim
  simp only [vcOp, calleeOf, pureOp, opD, onMem, hse, or_false]
  cases hv : ev as x with
  | kp b off =>
    have hpl : pLoad P as t (.kp b off) = none := by unfold pLoad; split <;> rfl
    simp only [hpl, onPure, onLd, false_or]
    apply propext
    constructor
    · rintro (⟨t', x', h', n, len, e, e', sz, rows, kh, hv, ho, _⟩ | ⟨t', x', b', off', val, Φ, ho, hx, h1, h2, h3, h4, h5⟩ | ⟨it, n, p, left, x', ho, _⟩)
      · cases ho
      · cases ho
        rw [hv] at hx
        cases hx
        exact ⟨val, Φ, h1, h2, h3, h4, h5⟩
      · cases ho
    · rintro ⟨val, Φ, h1, h2, h3, h4, h5⟩
      exact .inr (.inl ⟨t, x, b, off, val, Φ, rfl, hv, h1, h2, h3, h4, h5⟩)
  | _ =>
    rw [hA _ (fun b off => by rw [hv]; exact fun h => by cases h), or_false]
    simp only [onLd]
    cases pLoad P as t _ with
    | none => simp only [onP, semO, hse]; rfl
    | some x => rfl
theorem goO_fieldAddr (t : TypeId) (x : Operand) (j : Nat) : goO P eq R ops lg k (⟨dst, .fieldAddr t x j, ty, pos, aft, none⟩ :: l) st k1 as = onP P eq R ops lg k (.fieldAddr t x j) dst l st k1 as (pFieldAddr P t j (ev as x)) := eq_onP rfl (fun _ _ => rfl) rfl
theorem goO_field (t : TypeId) (x : Operand) (j : Nat) : goO P eq R ops lg k (⟨dst, .field t x j, ty, pos, aft, none⟩ :: l) st k1 as = onP P eq R ops lg k (.field t x j) dst l st k1 as (pField P t j (ev as x)) := eq_onP rfl (fun _ _ => rfl) rfl
theorem goO_indexAddr (t : TypeId) (x y : Operand) : goO P eq R ops lg k (⟨dst, .indexAddr t x y, ty, pos, aft, none⟩ :: l) st k1 as = onP P eq R ops lg k (.indexAddr t x y) dst l st k1 as (pIndexAddr P as t (ev as x) (ev as y)) := eq_onP rfl (fun _ _ => rfl) rfl
theorem goO_index (t : TypeId) (x y : Operand) : goO P eq R ops lg k (⟨dst, .index t x y, ty, pos, aft, none⟩ :: l) st k1 as = onP P eq R ops lg k (.index t x y) dst l st k1 as (pIndex P t (ev as x) (ev as y)) := eq_onP rfl (fun _ _ => rfl) rfl
theorem goO_extract (x : Operand) (j : Nat) : goO P eq R ops lg k (⟨dst, .extract x j, ty, pos, aft, none⟩ :: l) st k1 as = onP P eq R ops lg k (.extract x j) dst l st k1 as (pExtract j (ev as x)) := eq_onP rfl (fun _ _ => rfl) rfl
theorem goO_makeFunc (g : FuncId) (fst cap : Array Operand) : goO P eq R ops lg k (⟨dst, .makeFunc (.func g) fst cap, ty, pos, aft, none⟩ :: l) st k1 as = onP P eq R ops lg k (.makeFunc (.func g) fst cap) dst l st k1 as (pMake g (evs as fst.toList) (evs as cap.toList)) := eq_onP rfl (fun _ _ => rfl) rfl
theorem goO_len (x : Operand) (t : TypeId) : goO P eq R ops lg k (⟨dst, .call { callee := .builtin .len, args := #[x], argTypes := #[t] }, ty, pos, aft, none⟩ :: l) st k1 as = onP P eq R ops lg k (.call { callee := .builtin .len, args := #[x], argTypes := #[t] }) dst l st k1 as (pLen P t (ev as x)) := eq_onP rfl (fun _ _ => rfl) rfl
theorem goO_cap (x : Operand) (t : TypeId) : goO P eq R ops lg k (⟨dst, .call { callee := .builtin .cap, args := #[x], argTypes := #[t] }, ty, pos, aft, none⟩ :: l) st k1 as = onP P eq R ops lg k (.call { callee := .builtin .cap, args := #[x], argTypes := #[t] }) dst l st k1 as (pCap P t (ev as x)) := eq_onP rfl (fun _ _ => rfl) rfl
theorem goO_max (xs : Array Operand) (ts : Array TypeId) : goO P eq R ops lg k (⟨dst, .call { callee := .builtin .max, args := xs, argTypes := ts }, ty, pos, aft, none⟩ :: l) st k1 as = onP P eq R ops lg k (.call { callee := .builtin .max, args := xs, argTypes := ts }) dst l st k1 as (pMM .max (evs as xs.toList)) := eq_onP rfl (fun _ _ => rfl) rfl
theorem goO_min (xs : Array Operand) (ts : Array TypeId) : goO P eq R ops lg k (⟨dst, .call { callee := .builtin .min, args := xs, argTypes := ts }, ty, pos, aft, none⟩ :: l) st k1 as = onP P eq R ops lg k (.call { callee := .builtin .min, args := xs, argTypes := ts }) dst l st k1 as (pMM .min (evs as xs.toList)) := eq_onP rfl (fun _ _ => rfl) rfl

def dBox (k : Nat) (t : TypeId) (x : Option (Prop × List AV)) : Option (Prop × AV × List (Nat × Option Obj)) := match x with
  | some (p, cs) => some (p, .ptr k 0, [(k, some (.box t cs))])
  | none => none
def dAlloc (k : Nat) (t : TypeId) (x : Option (List Value)) : Option (Prop × AV × List (Nat × Option Obj)) := match x with
  | some zs => some (zs.all (·.oneCell') = true, .ptr k 0, [(k, some (.box t (zs.map .v)))])
  | none => none
theorem goO_box (t : TypeId) (x : Operand) : goO P eq R ops lg k (⟨dst, .box t x, ty, pos, aft, none⟩ :: l) st k1 as = onM P eq R ops lg k (.box t x) dst l st k1 as [] (dBox k t (cellsOf (ev as x))) := eq_onM rfl rfl rfl
theorem goO_alloc (t : TypeId) : goO P eq R ops lg k (⟨dst, .alloc t, ty, pos, aft, none⟩ :: l) st k1 as = onM P eq R ops lg k (.alloc t) dst l st k1 as [] (dAlloc k t (zer P t)) := eq_onM rfl rfl rfl
theorem goO_store (t : TypeId) (x y : Operand) : goO P eq R ops lg k (⟨dst, .store t x y, ty, pos, aft, none⟩ :: l) st k1 as = onM P eq R ops lg k (.store t x y) dst l st k1 as (frCh as.ob (frOf as (.store t x y))) (opD P k (as.chg (frCh as.ob (frOf as (.store t x y)))) (.store t x y)) := eq_onM rfl rfl rfl
theorem goO_makeSlice (t : TypeId) (x y : Operand) : goO P eq R ops lg k (⟨dst, .makeSlice t x y, ty, pos, aft, none⟩ :: l) st k1 as = onM P eq R ops lg k (.makeSlice t x y) dst l st k1 as [] (opD P k as (.makeSlice t x y)) := eq_onM rfl rfl rfl
theorem goO_makeMap (t : TypeId) (x : Option Operand) : goO P eq R ops lg k (⟨dst, .makeMap t x, ty, pos, aft, none⟩ :: l) st k1 as = onM P eq R ops lg k (.makeMap t x) dst l st k1 as [] (opD P k as (.makeMap t x)) := eq_onM rfl rfl rfl
theorem goO_mapUpdate (t : TypeId) (x y z : Operand) : goO P eq R ops lg k (⟨dst, .mapUpdate t x y z, ty, pos, aft, none⟩ :: l) st k1 as = onM P eq R ops lg k (.mapUpdate t x y z) dst l st k1 as (frCh as.ob (frOf as (.mapUpdate t x y z))) (opD P k (as.chg (frCh as.ob (frOf as (.mapUpdate t x y z)))) (.mapUpdate t x y z)) := eq_onM rfl rfl rfl
theorem goO_insert (t : TypeId) (x y z : Operand) : goO P eq R ops lg k (⟨dst, .insert t x y z, ty, pos, aft, none⟩ :: l) st k1 as = onM P eq R ops lg k (.insert t x y z) dst l st k1 as (frCh as.ob (frOf as (.insert t x y z))) (opD P k (as.chg (frCh as.ob (frOf as (.insert t x y z)))) (.insert t x y z)) := eq_onM rfl rfl rfl
theorem goO_range (t : TypeId) (x : Operand) : goO P eq R ops lg k (⟨dst, .range t x, ty, pos, aft, none⟩ :: l) st k1 as = onM P eq R ops lg k (.range t x) dst l st k1 as [] (opD P k as (.range t x)) := eq_onM rfl rfl rfl
theorem goO_lookup (t : TypeId) (x y : Operand) (ok : Bool) : goO P eq R ops lg k (⟨dst, .lookup t x y ok, ty, pos, aft, none⟩ :: l) st k1 as = onM P eq R ops lg k (.lookup t x y ok) dst l st k1 as [] (opD P k as (.lookup t x y ok)) := eq_onM rfl rfl rfl
theorem goO_buildSlice (t : TypeId) (len : Nat) (parts : Array (Nat × Operand)) : goO P eq R ops lg k (⟨dst, .buildSlice t len parts, ty, pos, aft, none⟩ :: l) st k1 as = onM P eq R ops lg k (.buildSlice t len parts) dst l st k1 as (frCh as.ob (frOf as (.buildSlice t len parts))) (opD P k (as.chg (frCh as.ob (frOf as (.buildSlice t len parts)))) (.buildSlice t len parts)) := eq_onM rfl rfl rfl
theorem goO_build (t : TypeId) (parts : Array (Nat × Operand)) : goO P eq R ops lg k (⟨dst, .build t parts, ty, pos, aft, none⟩ :: l) st k1 as = onM P eq R ops lg k (.build t parts) dst l st k1 as [] (opD P k as (.build t parts)) := eq_onM rfl rfl rfl
theorem goO_append (xs : Array Operand) (ts : Array TypeId) : goO P eq R ops lg k (⟨dst, .call { callee := .builtin .append, args := xs, argTypes := ts }, ty, pos, aft, none⟩ :: l) st k1 as = onM P eq R ops lg k (.call { callee := .builtin .append, args := xs, argTypes := ts }) dst l st k1 as [] (opD P k as (.call { callee := .builtin .append, args := xs, argTypes := ts })) := eq_onM rfl rfl rfl

/-- a part of a slice: of data; or of an object, that is frozen then, or cut short -/
def onS (P : Program) (eq : TypeId → Option (List Value)) (R : AS → Prop) (ops : Array Oper) (lg : Lg) (k : Nat) (t : TypeId) (x : Operand) (lo hi : Option Operand) (dst : Option Tmp) (l : List Oper) (st : List Wk) (k1 : Nat) (as : AS) (v : AV) : Prop := match v with
  | .ob n _ => onM P eq R ops lg k (.slice t x lo hi none) dst l st k1 as (frCh as.ob [n]) (opD P k (as.chg (frCh as.ob [n])) (.slice t x lo hi none)) ∨
      vcCut P k as ⟨dst, .slice t x lo hi none, 0, "", #[], none⟩ fun ch r => chkL ops lg as (.slice t x lo hi none) ch ∧ goO P eq R ops (advL lg as (.slice t x lo hi none) ch) (k + 8) l st k1 ((as.chg ch).put dst r)
  | v => onP P eq R ops lg k (.slice t x lo hi none) dst l st k1 as (pSlice P t v (lo.map (ev as)) (hi.map (ev as)) none)
theorem onS_sl (t : TypeId) (x : Operand) (lo hi : Option Operand) (sz : Nat) (rows : List (List DV)) : onS P eq R ops lg k t x lo hi dst l st k1 as (.sl sz rows) = onP P eq R ops lg k (.slice t x lo hi none) dst l st k1 as (pSlice P t (.sl sz rows) (lo.map (ev as)) (hi.map (ev as)) none) := rfl
theorem onS_v (t : TypeId) (x : Operand) (lo hi : Option Operand) (v : Value) : onS P eq R ops lg k t x lo hi dst l st k1 as (.v v) = onP P eq R ops lg k (.slice t x lo hi none) dst l st k1 as (pSlice P t (.v v) (lo.map (ev as)) (hi.map (ev as)) none) := rfl
theorem goO_slice (t : TypeId) (x : Operand) (lo hi : Option Operand) : goO P eq R ops lg k (⟨dst, .slice t x lo hi none, ty, pos, aft, none⟩ :: l) st k1 as = onS P eq R ops lg k t x lo hi dst l st k1 as (ev as x) := by
  rw [goO_plain _ rfl (fun x hh => by cases hh)]
  have hse : ∀ K, vcSem P eq k as (.slice t x lo hi none) K = False := fun K => no_sem rfl
  have hev : ∀ c, ev (as.chg c) x = ev as x := fun c => by cases x <;> rfl
  have halt : ∀ K, (vcLdo P as ⟨dst, .slice t x lo hi none, ty, pos, aft, none⟩ K ∨ vcEnt as ⟨dst, .slice t x lo hi none, ty, pos, aft, none⟩ K) = False := fun K => by
    apply propext
    constructor
    · rintro (⟨t', x', b, off, val, Φ, ho, _⟩ | ⟨it, n, p, left, x', ho, _⟩) <;> cases ho
    · exact False.elim
  have hcut : ∀ K, (∀ n len, ev as x ≠ .ob n len) → vcCut P k as ⟨dst, .slice t x lo hi none, ty, pos, aft, none⟩ K = False := fun K hn => by
    apply propext
    constructor
    · rintro ⟨t', x', h', n, len, e, e', sz, rows, kh, hv, ho, hx, _⟩
      cases ho
      exact hn n len hx
    · exact False.elim
  simp only [vcOp, calleeOf, pureOp, hse, or_false, halt]
  cases hv : ev as x with
  | ob n len =>
    have h2 : frOf as (.slice t x lo hi none) = [n] := by simp [frOf, hv]
    simp only [onS, h2, pSlice, onPure]
    cases opD P k (as.chg (frCh as.ob [n])) (.slice t x lo hi none) with
    | none => simp only [onM, semO, hse]; rfl
    | some x => rfl
  | _ =>
    simp only [opD, hev, hv, onS, onMem]
    rw [hcut _ (fun n len => by rw [hv]; exact fun h => by cases h), or_false]
    cases pSlice P t _ (lo.map (ev as)) (hi.map (ev as)) none with
    | none => simp only [onP, semO, hse]; rfl
    | some x => rfl

theorem goO_call (x : Operand) (xs : Array Operand) (ts : Array TypeId) : goO P eq R ops lg k (⟨dst, .call { callee := .value x, args := xs, argTypes := ts }, ty, pos, aft, none⟩ :: l) st k1 as =
    onF P eq R ops lg k (.call { callee := .value x, args := xs, argTypes := ts }) dst l st k1 as (evs as xs.toList) (ev as x) := by
  rw [goO_plain _ rfl (fun x hh => by cases hh)]
  simp only [vcOp, calleeOf]
  generalize ev as x = v
  cases v <;> rfl

/-- What is asked of a call's contract where it is used. -/
def callOk (k : Nat) (as : AS) (fp fr ln τ : List Nat) (args args' : List AV) (pre post : List Obj) (r : AV) : Prop :=
  ((fr ++ ln ++ τ).all fun n => fp.contains n) = true ∧ nodup τ = true ∧ (τ.all fun q => decide (q < k)) = true ∧ (ln.all fun n => !τ.contains n && (app as.ob (frCh as.ob fr) n).isSome) = true ∧
    eqrL (eqr2 (rt τ)) (args.map (low (app as.ob (frCh as.ob fr)) ln)) args' ∧ preOk (rt τ) (app as.ob (frCh as.ob fr)) τ pre ∧ (ln = [] ∨ (only r ∧ ∀ o ∈ post, onlyO o))

/-- A call by its contract. -/
theorem onF_call {o : Op} {args args' cap : List AV} {g : FuncId} {pre post : List Obj} {r : AV} (hs : SpecG P g args' pre r post) (fr ln τ : List Nat)
    (hok : callOk k as (fpt as o) fr ln τ (args ++ cap) args' pre post r)
    (h : chkL ops lg as o (frCh as.ob fr ++ postCh (rb τ k) k τ post) ∧ goO P eq R ops (advL lg as o (frCh as.ob fr ++ postCh (rb τ k) k τ post)) (k + 8) l st k1 ((as.chg (frCh as.ob fr ++ postCh (rb τ k) k τ post)).put dst (ren (rb τ k) r))) :
    onF P eq R ops lg k o dst l st k1 as args (.fn g cap) := by
  obtain ⟨h1, h2, h3, h4, h5, h6, h7⟩ := hok
  refine ⟨fr, ln, τ, args', pre, r, post, fun n hn => (by cases hn), fun n hn => ?_, h2, fun q hq => by simpa using List.all_eq_true.1 h3 q hq, fun n hn => ?_, h5, h6, h7.imp id fun h => ⟨h.1, fun o ho => .inl (h.2 o ho)⟩, hs, .inl h⟩
  · have : n ∈ fr ++ ln ++ τ := by simp; rcases hn with h | h | h <;> simp [h]
    simpa using List.all_eq_true.1 h1 n this
  · have := List.all_eq_true.1 h4 n hn
    simp only [Bool.and_eq_true, Bool.not_eq_true', List.contains_eq_mem, decide_eq_false_iff_not] at this
    exact ⟨this.1, Option.isSome_iff_exists.1 this.2⟩

/-- A call whose third argument is a new slice that is not used again. -/
theorem onF_call3 {o : Op} {a b : AV} {n len : Nat} {args' cap : List AV} {g : FuncId} {r : AV} (hs : SpecG P g args' [] r [])
    (hok : callOk k as (fpt as o) [n] [] [] ([a, b, .ob n len] ++ cap) args' [] [] r)
    (h : chkL ops lg as o (frCh as.ob [n] ++ postCh (rb [] k) k [] []) ∧ goO P eq R ops (advL lg as o (frCh as.ob [n] ++ postCh (rb [] k) k [] [])) (k + 8) l st k1 ((as.chg (frCh as.ob [n] ++ postCh (rb [] k) k [] [])).put dst (ren (rb [] k) r))) :
    onF P eq R ops lg k o dst l st k1 as [a, b, .ob n len] (.fn g cap) := onF_call hs [n] [] [] hok h

/-- A call of a function value by its contract: its state is the first of those handed over. -/
theorem onF_cb {o : Op} {args args' : List AV} {n0 : Nat} {pre post : List Obj} {r : AV} (hs : CbG P args' pre r post) (fr ln τ : List Nat)
    (hok : callOk k as (fpt as o) fr ln (n0 :: τ) args args' pre post r)
    (h : chkL ops lg as o (frCh as.ob fr ++ postCh (rb (n0 :: τ) k) k (n0 :: τ) post) ∧ goO P eq R ops (advL lg as o (frCh as.ob fr ++ postCh (rb (n0 :: τ) k) k (n0 :: τ) post)) (k + 8) l st k1 ((as.chg (frCh as.ob fr ++ postCh (rb (n0 :: τ) k) k (n0 :: τ) post)).put dst (ren (rb (n0 :: τ) k) r))) :
    onF P eq R ops lg k o dst l st k1 as args (.yl n0) := by
  obtain ⟨h1, h2, h3, h4, h5, h6, h7⟩ := hok
  refine ⟨fr, ln, n0 :: τ, args', pre, r, post, fun n hn => (by cases hn; rfl), fun n hn => ?_, h2, fun q hq => by simpa using List.all_eq_true.1 h3 q hq, fun n hn => ?_, h5, h6, h7.imp id fun h => ⟨h.1, fun o ho => .inl (h.2 o ho)⟩, hs, .inl h⟩
  · have : n ∈ fr ++ ln ++ (n0 :: τ) := by
      simp only [List.mem_append]
      rcases hn with h | h | h
      · exact .inl (.inl h)
      · exact .inl (.inr h)
      · exact .inr h
    simpa using List.all_eq_true.1 h1 n this
  · have := List.all_eq_true.1 h4 n hn
    simp only [Bool.and_eq_true, Bool.not_eq_true', List.contains_eq_mem, decide_eq_false_iff_not] at this
    exact ⟨this.1, Option.isSome_iff_exists.1 this.2⟩

/-- A call of a function whose arguments are data, of which nothing is frozen. -/
theorem onF_data {o : Op} {args args' cap : List AV} {g : FuncId} {r : AV} (hs : SpecF P g args' r []) (hle : eqrL (eqr2 (rt [])) ((args ++ cap).map (low as.ob [])) args')
    (h : chkL ops lg as o [] ∧ goO P eq R ops (advL lg as o []) (k + 8) l st k1 (as.put dst (ren (rb [] k) r))) :
    onF P eq R ops lg k o dst l st k1 as args (.fn g cap) :=
  onF_call hs [] [] [] ⟨rfl, rfl, rfl, rfl, hle, trivial, .inl rfl⟩ h

theorem spec_go {f : FuncId} {fn : Func} {c : Code} {args : List AV} {pre post : List Obj} {r : AV} {N : Nat} {rs : List ResultVar} (hN : fn.ntmps = N) (hrs : fn.results.toList = rs) (hf : P.funcs[f]? = some fn) (hb : fn.body = some c) (hname : (fn.name == "runtime.NumGoroutine") = false) (hok : drawsOk c = true)
    (hargs : args.length ≤ N) (hp8 : pre.length ≤ 8) (hp : pre.length ≤ post.length) (hol : post.length ≤ pre.length + 8) (h : ∀ R : AS → Prop, (∀ as, Fin P rs pre.length r post as → R as) → goC P eq R c [] 8 (entry args pre N)) : SpecG P f args pre r post := by
  refine spec_of hN hrs hf hb hname hok hargs hp8 hp hol (eq := eq) ?_
  exact h (Fin P rs pre.length r post) fun _ h => h

/-- The end of a function that makes no object: what is asked, for the simplifier. -/
def fin0 (P : Program) (rs : List ResultVar) (r : AV) (as : AS) : Prop := match resAll P as rs with
  | some (p, vs) => p ∧ eqr (rn 0 []) (resV vs) r
  | none => False
theorem fin_of0 {rs : List ResultVar} {r : AV} (h : fin0 P rs r as) : Fin P rs ([] : List Obj).length r [] as := by
  unfold fin0 at h
  unfold Fin
  cases hres : resAll P as rs with
  | none => rw [hres] at h; exact h.elim
  | some q =>
    obtain ⟨p, vs⟩ := q
    rw [hres] at h
    exact ⟨h.1, [], Nat.le_refl _, h.2, Nat.zero_le _, rfl, trivial, trivial⟩
/-- The end of a function with objects: σ: where the new ones are. -/
def fin1 (P : Program) (rs : List ResultVar) (n : Nat) (r : AV) (post : List Obj) (σ : List (Option Nat)) (as : AS) : Prop := match resAll P as rs with
  | some (p, vs) => p ∧ n + σ.length ≤ post.length ∧ eqr (rn n σ) (resV vs) r ∧ Ent n as σ ⟨[], idx 0 post⟩
  | none => False
theorem fin_of1 {rs : List ResultVar} {n : Nat} {r : AV} {post : List Obj} (σ : List (Option Nat)) (h : fin1 P rs n r post σ as) : Fin P rs n r post as := by
  unfold fin1 at h
  unfold Fin
  cases hres : resAll P as rs with
  | none => rw [hres] at h; exact h.elim
  | some q =>
    obtain ⟨p, vs⟩ := q
    rw [hres] at h
    exact ⟨h.1, σ, h.2⟩

end
end Go.Proofs.YtciegkpjenjaeaaDoor.Ab
