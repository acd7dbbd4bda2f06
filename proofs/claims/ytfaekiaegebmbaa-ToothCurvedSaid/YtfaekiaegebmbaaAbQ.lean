/- A range over a function: the record, the rounds, the statement. -/
import Derived.Test.YtfaekiaegebmbaaAbN
import Derived.RangeFuncRecord
namespace Go.Proofs.Ytfaekiaegebmbaa.Ab
open Go Go.RowKit
set_option linter.unusedSimpArgs false
set_option linter.unusedVariables false

/-- The memory as the objects say it, but for the bound on what cannot turn. -/
structure MRo (m : Mem) (w : World) (ob : Nat → Option Obj) : Prop where
  obs : ∀ n o, ob n = some o → ∃ v, m.β n = some v ∧ ObAt w m n v o
  apart : ∀ (n n' : Nat) (o o' : Obj) (x x' : Value) (b : Nat), ob n = some o → ob n' = some o' → o.live = true → o'.live = true → n ≠ n' → m.β n = some x → m.β n' = some x' → foot m n x o b → ¬ foot m n' x' o' b

section
variable {m m' : Mem} {w w' : World} {ob ob' : Nat → Option Obj} {b : Nat}
theorem MR.o (h : MR m w ob) : MRo m w ob := ⟨h.obs, h.apart⟩
theorem MRo.mr (h : MRo m w ob) (hi : ∀ b, m.I b → b < w.heap.size) : MR m w ob := ⟨hi, h.obs, h.apart⟩
theorem foot_congr (hφ : m'.φ = m.φ) (n : Nat) (x : Value) (o : Obj) : foot m' n x o b = foot m n x o b := by cases o <;> simp [foot, hφ]
theorem own_congr (hβ : m'.β = m.β) (hφ : m'.φ = m.φ) : own m' ob b ↔ own m ob b := by
  unfold own
  constructor
  · rintro ⟨n, o, x, h1, h2, h3, h4⟩
    exact ⟨n, o, x, h1, h2, by rw [← hβ]; exact h3, by rw [← foot_congr hφ]; exact h4⟩
  · rintro ⟨n, o, x, h1, h2, h3, h4⟩
    exact ⟨n, o, x, h1, h2, by rw [hβ]; exact h3, by rw [foot_congr hφ]; exact h4⟩
theorem MRo.later (h : MRo m w ob) (hs : ∀ b, m.I b → m'.I b) (hkI : ∀ b, m.I b → w'.heap[b]? = w.heap[b]?) (hβ : m'.β = m.β) (hφ : m'.φ = m.φ) (hl : Later w w') (hk : ∀ b, own m ob b → w'.heap[b]? = w.heap[b]?) (hn : ∀ b, own m ob b → ¬ m'.I b) : MRo m' w' ob := by
  refine ⟨fun n o ho => ?_, fun n n' o o' x x' b h1 h2 h3 h4 h5 h6 h7 h8 => ?_⟩
  · obtain ⟨v, hv, hat⟩ := h.obs n o ho
    refine ⟨v, by rw [hβ]; exact hv, hat.later hs hkI (fun n x hx => by rw [hβ]; exact hx) hl (by rw [hφ]) (fun b hb => ?_) (fun b hb hlv _ => hn b ⟨n, o, v, ho, hlv, hv, hb⟩)⟩
    cases hlv : o.live with
    | true => exact hk b ⟨n, o, v, ho, hlv, hv, hb⟩
    | false => exact hkI b (hat.is_I hlv hb)
  · rw [hβ] at h6 h7
    rw [foot_congr hφ] at h8 ⊢
    exact h.apart n n' o o' x x' b h1 h2 h3 h4 h5 h6 h7 h8

theorem later_put (w : World) (r : Nat) (o : _root_.Go.Obj) : Later w (w.putObj r o) := ⟨rfl, rfl, rfl, by simp⟩
/-- A block that is nobody's turns. -/
theorem MR.put (h : MR m w ob) {r : Nat} {o : _root_.Go.Obj} (ho : ¬ own m ob r) (hI : ¬ m.I r) : MR m (w.putObj r o) ob := by
  have hi : ∀ b, m.I b → (w.putObj r o).heap[b]? = w.heap[b]? := fun b hb => World.putObj_heap_other (fun e => hI (e ▸ hb))
  refine (h.o.later (fun _ h => h) hi rfl rfl (later_put w r o) (fun b hb => World.putObj_heap_other (fun e => ho (e ▸ hb))) (fun b hb => own.not_I h hb)).mr fun b hb => ?_
  simpa using h.imm b hb
theorem Rep.put {a : AV} {x : Value} (h : Rep w m a x) {r : Nat} {o : _root_.Go.Obj} (hI : ¬ m.I r) : Rep (w.putObj r o) m a x :=
  h.ext (fun _ h => h) (fun b hb => World.putObj_heap_other (fun e => hI (e ▸ hb))) (fun _ _ h => h)
theorem Rel.putObj {as : AS} {a : Act} (h : Rel m w as a) {r : Nat} {o : _root_.Go.Obj} (ho : ¬ own m as.ob r) (hI : ¬ m.I r) : Rel m (w.putObj r o) as a :=
  ⟨h.mr.put ho hI, h.size, fun t => (h.tm t).put hI⟩
end

def jmpCode : Exit → Code
  | .ret => .ret
  | .exit id => .exit id
  | _ => .skip

/-- Between two rounds: the objects, the temporaries as they were saved, the record. -/
structure RF (k : Nat) (m0 : Mem) (tmps : Array Value) (l : Nat) (R : Loop) (tms : List (Nat × AV)) (os : List (Nat × Obj)) (pend : Option Exit) (m : Mem) (F : Nat → Prop) (w : World) : Prop where
  ob : MRo m w (getO os)
  tm : ∀ t, Rep w m (getT tms t) (tmps.getD t undef)
  hF : ∀ b, F b ↔ own m (getO os) b ∨ b = l
  nl : ¬ own m (getO os) l
  rc : w.heap[l]? = some (.loop { R with state := if pend.isNone then .ready else .done, pending := pend.map jmpCode })
  beta : ∀ n x, m0.β n = some x → m.β n = some x
  fr : ∀ n, k + 32 ≤ n → m.β n = none
def RΦ (k : Nat) (m0 : Mem) (tmps : Array Value) (l : Nat) (R : Loop) (tms : List (Nat × AV)) (os : List (Nat × Obj)) (pend : Option Exit) (v : Value) (I F : Nat → Prop) (w : World) : Prop :=
  v = .func (.yield l) #[] #[] ∧ ∃ β φ, RF k m0 tmps l R tms os pend ⟨I, β, φ⟩ F w

/-- The memory of which the rounds are one object. -/
def yM (I : Nat → Prop) (l : Nat) (F : Nat → Prop) : Mem := ⟨I, fun n => if n = 0 then some (.func (.yield l) #[] #[]) else none, fun n b => n = 0 ∧ F b⟩
theorem yM_φ {I : Nat → Prop} {l : Nat} {F : Nat → Prop} : (yM I l F).φ 0 = F := by funext b; simp [yM]

theorem own_opq {m : Mem} {Φ : Value → (Nat → Prop) → (Nat → Prop) → World → Prop} {v : Value} (hv : m.β 0 = some v) (b : Nat) : own m (obl [.opq Φ]) b ↔ m.φ 0 b := by
  constructor
  · rintro ⟨n, o, x, h1, h2, h3, h4⟩
    have hn : n = 0 := by
      unfold obl at h1
      rcases Nat.eq_zero_or_pos n with h | h
      · exact h
      · rw [List.getElem?_eq_none (by simp; omega)] at h1; cases h1
    subst hn
    have : o = .opq Φ := by simpa [obl] using h1.symm
    subst this
    exact h4
  · exact fun h => ⟨0, .opq Φ, v, rfl, rfl, hv, h⟩

section
variable {k : Nat} {m0 m : Mem} {tmps : Array Value} {l : Nat} {R : Loop} {tms : List (Nat × AV)} {os : List (Nat × Obj)} {pend : Option Exit} {F : Nat → Prop} {w : World}

theorem RF.at (h : RF k m0 tmps l R tms os pend m F w) (hi : ∀ b, m.I b → b < w.heap.size) (hl : ¬ m.I l) : MR (yM m.I l F) w (obl [.opq (RΦ k m0 tmps l R tms os pend)]) := by
  have hnI : ∀ b, F b → b < w.heap.size ∧ ¬ m.I b := fun b hb => by
    rcases (h.hF b).1 hb with h1 | rfl
    · exact ⟨own.lt (h.ob.mr hi) h1, own.not_I (h.ob.mr hi) h1⟩
    · exact ⟨lt_of_get h.rc, hl⟩
  have hat : OpqAt w (yM m.I l F) 0 (.func (.yield l) #[] #[]) (RΦ k m0 tmps l R tms os pend) := by
    unfold OpqAt
    rw [yM_φ]
    refine ⟨⟨rfl, m.β, m.φ, h⟩, hnI, fun I' w' hs hn hlt hk => ⟨rfl, m.β, m.φ, ?_⟩⟩
    have hkI : ∀ b, m.I b → w'.heap[b]? = w.heap[b]? := fun b hb => hk b (.inr hb)
    have hkF : ∀ b, F b → w'.heap[b]? = w.heap[b]? := fun b hb => hk b (.inl hb)
    refine ⟨h.ob.later (m' := ⟨I', m.β, m.φ⟩) hs hkI rfl rfl hlt (fun b hb => hkF b ((h.hF b).2 (.inl hb))) (fun b hb => hn b ((h.hF b).2 (.inl hb))), fun t => (h.tm t).ext hs hkI (fun _ _ h => h), fun b => ?_, ?_, ?_, h.beta, h.fr⟩
    · rw [own_congr (m := m) (m' := ⟨I', m.β, m.φ⟩) rfl rfl]; exact h.hF b
    · rw [own_congr (m := m) (m' := ⟨I', m.β, m.φ⟩) rfl rfl]; exact h.nl
    · rw [hkF l ((h.hF l).2 (.inr rfl))]; exact h.rc
  have get : ∀ n o, obl [.opq (RΦ k m0 tmps l R tms os pend)] n = some o → n = 0 ∧ o = .opq (RΦ k m0 tmps l R tms os pend) := fun n o ho => by
    unfold obl at ho
    rcases Nat.eq_zero_or_pos n with h | h
    · subst h; exact ⟨rfl, by simpa using ho.symm⟩
    · rw [List.getElem?_eq_none (by simp; omega)] at ho; cases ho
  refine ⟨hi, fun n o ho => ?_, fun n n' o o' x x' b h1 h2 _ _ hne => ?_⟩
  · obtain ⟨rfl, rfl⟩ := get n o ho
    exact ⟨_, rfl, hat⟩
  · exact absurd ((get _ _ h1).1.trans (get _ _ h2).1.symm) hne

theorem RF.open {mc : Mem} {v : Value} (h : MR mc w (obl [.opq (RΦ k m0 tmps l R tms os pend)])) (hv : mc.β 0 = some v) : v = .func (.yield l) #[] #[] ∧ (∃ β φ, RF k m0 tmps l R tms os pend ⟨mc.I, β, φ⟩ (mc.φ 0) w) ∧ ∀ b, mc.φ 0 b → b < w.heap.size ∧ ¬ mc.I b := by
  obtain ⟨v', hv', hat⟩ := h.obs 0 (.opq (RΦ k m0 tmps l R tms os pend)) rfl
  rw [hv] at hv'
  cases hv'
  exact ⟨hat.1.1, hat.1.2, hat.2.1⟩

theorem tmsSelf_get {ρ : Nat → Option (Option Nat)} : ∀ {l : List (Nat × AV)}, tmsSelf ρ l → ∀ t, eqr ρ (getT l t) (getT l t)
  | [], _, t => by simp only [getT]; trivial
  | (i, v) :: l, h, t => by
    simp only [getT]
    split
    · exact h.1
    · exact tmsSelf_get h.2 t

theorem putAll_rel {as : AS} : ∀ (ts : List Tmp) (vs : List AV) (us : List Value) {as : AS} {a : Act}, Rel m w as a → vs.length = us.length → (∀ i c, vs[i]? = some c → Rep w m c (us.getD i undef)) →
    Rel m w (putAll as ts vs) { a with tmps := (ts.zip us).foldl (fun tmps (t, x) => tmps.setIfInBounds t x) a.tmps }
  | [], vs, us, as, a, h, _, _ => by simpa [putAll] using h
  | t :: ts, [], us, as, a, h, hl, _ => by
    have : us = [] := List.eq_nil_of_length_eq_zero (by simpa using hl.symm)
    subst this
    simpa [putAll] using h
  | t :: ts, v :: vs, [], as, a, h, hl, _ => by simp at hl
  | t :: ts, v :: vs, u :: us, as, a, h, hl, hr => by
    simp only [putAll, List.zip_cons_cons, List.foldl_cons]
    exact putAll_rel (as := as) ts vs us (put_rel h (some t) (by simpa using hr 0 v rfl)) (by simpa using hl) (fun i c hc => by simpa using hr (i + 1) c (by simpa using hc))
theorem putAll_N (as : AS) : ∀ (ts : List Tmp) (vs : List AV) (as : AS), (putAll as ts vs).ob = as.ob
  | [], _, _ => by simp [putAll]
  | _ :: _, [], _ => by simp [putAll]
  | t :: ts, v :: vs, as1 => by
    simp only [putAll]
    rw [putAll_N as ts vs, put_ob]
end

/-- The walk of a code is known to be sound. -/
def WalkOk (P : Program) (eq : TypeId → Option (List Value)) (c : Code) : Prop := ∀ (k : Nat) (as : AS) (Q : Exit → Nat → AS → Prop), vc P eq c k as Q → ∀ {ro : Option Nat} {n s : Nat} {m : Mem} {w : World} {a : Act}, Rel m w as a → Fr k m → Aux s ro w m as.ob a.defers →
    ∀ {Q' : Exit → Act → World → Prop}, (∀ e k' as' m' w' a', Q e k' as' → Lands s ro m w as.ob k' as' m' w' a' → Q' e a' w') → c.wpIn (W ro) n P Q' a w

section
variable {P : Program} {eq : TypeId → Option (List Value)} {k : Nat} {m0 : Mem} {tmps : Array Value} {l : Nat} {R : Loop} {tms : List (Nat × AV)} {osx osy : List (Nat × Obj)} {pend : Option Exit}

/-- A round, as a contract of yield. -/
theorem RF.cb {args args' : List AV} (SA : WalkOk P eq R.assign) (SB : WalkOk P eq R.body) (hT : R.tmps = tmps) (hfr0 : Fr k m0) (hself : ∀ σ, tmsSelf (rn k σ) tms) (hj : jumpOk pend) (hps : args.length = R.params.size) (hargs : eqrL (eqr2 (rt [])) args args')
    (h : vc P eq R.assign (k + 32) (putAll ((LS.mk tms osx).as tmps.size) R.params.toList args') fun e k1 as1 => e = .normal ∧ vc P eq R.body k1 as1 fun e k2 as2 => pendOf e = pend ∧ ∃ σ, Ent k as2 σ ⟨[], osy⟩) :
    CbG P args [.opq (RΦ k m0 tmps l R tms osx none)] (.v (.bool pend.isNone)) [.opq (RΦ k m0 tmps l R tms osy pend)] := by
  refine ⟨Nat.le_refl _, by simp, fun m w f fst cap vs hβ hmr hfr hvs hrep => ?_⟩
  obtain ⟨hv, ⟨β, φ, hRF⟩, hFI⟩ := RF.open hmr hβ
  rw [hv]
  intro ro n o a next Q hnext
  have hinv : (do let d ← Deferred.ofValue (.func (.yield l) #[] #[]) vs; invoke d.target d.args : Sem Next).run P w = .ok (.round l R.fn ((R.params.zip vs).foldl (fun tmps (t, a) => tmps.setIfInBounds t a) R.tmps) R.assign R.body) w := by
    have hy := run_yield (P := P) (args := vs) hRF.rc (by show vs.size = R.params.size; omega)
    simpa [Deferred.ofValue, invoke] using hy
  rw [hinv, Oper.uponIn_round]
  have hlF : m.φ 0 l := (hRF.hF l).2 (.inr rfl)
  have hlI : ¬ m.I l := (hFI l hlF).2
  have hlt : l < w.heap.size := lt_of_get hRF.rc
  let mr : Mem := ⟨m.I, β, φ⟩
  have hmr0 : MR mr w (getO osx) := hRF.ob.mr hmr.imm
  refine ⟨fun h => by simp [W, Fence.wide] at h, RoundIn.mono (R := fun e w' => ∃ v, e = .returned v ∧ next (a.put o.dst v) w') (roundIn_of_wpIn (by trivial) ?_) (fun e w' he => by obtain ⟨v, rfl, hv⟩ := he; exact hv)⟩
  -- the walk
  have hR0 : Rel mr w ((LS.mk tms osx).as tmps.size) { tmps := tmps, defers := [] } := ⟨hmr0, rfl, hRF.tm⟩
  obtain ⟨hal, hag⟩ := eqrL_get hargs
  have hR1 : Rel mr w (putAll ((LS.mk tms osx).as tmps.size) R.params.toList args') { tmps := (R.params.zip vs).foldl (fun tmps (t, a) => tmps.setIfInBounds t a) R.tmps, defers := [] } := by
    have := putAll_rel (as := (LS.mk tms osx).as tmps.size) R.params.toList args' vs.toList hR0 (by simp; omega) (fun i c hc => by
      obtain ⟨c', hc', he⟩ := hag i c hc
      have h1 : Rep w mr c' (vs.getD i undef) → Rep w mr c (vs.getD i undef) := fun h => Rep.eqr2 (m := mr) (m' := mr) (ρ := rt []) rfl (fun n n' h => by simp [rt] at h) (fun n' h => by simp [rt] at h) h he
      have h2 : Rep w mr c (vs.getD i undef) := Rep.eqr2 (m := m) (m' := mr) (ρ := rt []) rfl (fun n n' h => by simp [rt] at h) (fun n' h => by simp [rt] at h) (hrep i c' hc') he
      simpa [Array.getD_eq_getD_getElem?, List.getD_eq_getElem?_getD] using h2)
    have e : (R.params.zip vs).foldl (fun tmps (t, a) => tmps.setIfInBounds t a) R.tmps = (R.params.toList.zip vs.toList).foldl (fun tmps (t, x) => tmps.setIfInBounds t x) tmps := by
      rw [← Array.foldl_toList, Array.toList_zip, hT]
    rw [e]
    exact this
  have hob1 : (putAll ((LS.mk tms osx).as tmps.size) R.params.toList args').ob = getO osx := putAll_N ((LS.mk tms osx).as tmps.size) _ _ _
  have hA1 : Aux 0 (some l) w mr (putAll ((LS.mk tms osx).as tmps.size) R.params.toList args').ob [] := by
    rw [hob1]
    exact ⟨fun d hd => (by cases hd), List.nodup_nil, Nat.zero_le _, fun l' hl' => by cases hl'; exact ⟨_, hRF.rc, hRF.nl, hlI⟩⟩
  show R.assign.wpIn (W (some l)) _ P _ _ w
  refine SA (k + 32) _ _ h hR1 (fun n hn => hRF.fr n hn) hA1 fun e k1 as1 m1 w1 a1 hq hL => ?_
  obtain ⟨rfl, hvcB⟩ := hq
  obtain ⟨hR2, hfr2, hE2, hA2⟩ := hL
  rw [hob1] at hE2
  have hE2l : w1.heap[l]? = w.heap[l]? := hE2.keep l hlt hRF.nl
  obtain ⟨_, _, hol1, hil1⟩ := hA2.rnd l rfl
  have hrc1 : w1.heap[l]? = some (.loop { R with state := .ready, pending := none }) := by rw [hE2l]; simpa using hRF.rc
  have hbr := run_beginRound (P := P) hrc1 rfl
  refine ⟨_, hbr, ?_⟩
  have hlt1 : l < w1.heap.size := lt_of_get hrc1
  let Rb : Loop := { { R with state := .ready, pending := none } with state := .busy }
  have hA3 : Aux 0 (some l) (w1.putObj l (.loop Rb)) m1 as1.ob a1.defers := by
    refine ⟨fun d hd => ?_, hA2.nd, Nat.zero_le _, fun l' hl' => by cases hl'; exact ⟨Rb, World.putObj_heap_same hlt1, hol1, hil1⟩⟩
    obtain ⟨r, h1, h2, h3, h4, h5⟩ := hA2.marks d hd
    refine ⟨r, h1, h2, ?_, h4, h5⟩
    rw [World.putObj_heap_other (fun e => by rw [e, hrc1] at h3; cases h3)]
    exact h3
  refine SB k1 as1 _ hvcB (hR2.putObj hol1 hil1) hfr2 hA3 fun e k2 as2 m2 w3 a2 hq hL2 => ?_
  obtain ⟨hpe, σ, hent⟩ := hq
  obtain ⟨hR3, hfr3, hE3, hA4⟩ := hL2
  have hlt2 : l < (w1.putObj l (.loop Rb)).heap.size := by simpa using hlt1
  have hrc3 : w3.heap[l]? = some (.loop Rb) := by rw [hE3.keep l hlt2 hol1]; exact World.putObj_heap_same hlt1
  obtain ⟨_, _, hol3, hil3⟩ := hA4.rnd l rfl
  have hlt3 : l < w3.heap.size := lt_of_get hrc3
  obtain ⟨m4, g1, g2, g3, g4, g5, g6⟩ := hent.sound0 hR3
  have hg1ob : ((⟨[], osy⟩ : LS).as as2.N).ob = getO osy := rfl
  -- common end
  have fin : ∀ jump, jump = pend.map jmpCode → ∃ v w', (Instr.endRound l jump).run P w3 = .ok v w' ∧ ∃ v', Ending.returned v = .returned v' ∧ next (a.put o.dst v') w' := by
    intro jump hjump
    refine ⟨_, _, run_endRound jump hrc3, _, rfl, ?_⟩
    let R4 : Loop := { Rb with state := if jump.isNone then .ready else .done, pending := jump }
    let w4 : World := w3.putObj l (.loop R4)
    have hown4 : ∀ b, own m4 (getO osy) b → own m2 as2.ob b := fun b hb => g5 b hb
    have hl4 : ¬ own m4 (getO osy) l := fun hb => hol3 (hown4 l hb)
    have hI4 : ¬ m4.I l := by rw [g4]; exact hil3
    have hmr4 : MR m4 w4 (getO osy) := (show MR m4 w3 (getO osy) from g1.mr).put hl4 hI4
    have hjn : jump.isNone = pend.isNone := by rw [hjump]; cases pend <;> rfl
    have hIsub : ∀ b, mr.I b → m2.I b := fun b hb => hE3.sub b (hE2.sub b hb)
    have hRF4 : RF k m0 tmps l R tms osy pend m4 (fun b => own m4 (getO osy) b ∨ b = l) w4 := by
      refine ⟨hmr4.o, fun t => ?_, fun b => Iff.rfl, hl4, ?_, fun n x hx => ?_, fun n hn => g2 n (by have := hent.1; omega)⟩
      · have r1 : Rep w1 m1 (getT tms t) (tmps.getD t undef) := (show Rep w mr (getT tms t) (tmps.getD t undef) from hRF.tm t).of_ext hE2
        have r2 : Rep w3 m2 (getT tms t) (tmps.getD t undef) := (r1.put (r := l) (o := .loop Rb) hil1).of_ext hE3
        exact (g3 _ _ _ (tmsSelf_get (hself σ) t) r2).put hI4
      · show (w3.putObj l (.loop R4)).heap[l]? = _
        rw [World.putObj_heap_same hlt3]
        simp only [R4, Rb, hjump]
        cases pend <;> rfl
      · have hn : n < k := by
          rcases Nat.lt_or_ge n k with h | h
          · exact h
          · rw [hfr0 n h] at hx; cases hx
        rw [g6 n hn]
        exact hE3.beta n x (hE2.beta n x (hRF.beta n x hx))
    have hmrF := hRF4.at hmr4.imm hI4
    refine hnext _ _ ⟨yM m4.I l (fun b => own m4 (getO osy) b ∨ b = l), ?_, hmrF, ?_, fun n hn => ?_⟩
    · rw [hjn]; exact .v _
    · have hownm : ∀ b, own m (obl [.opq (RΦ k m0 tmps l R tms osx none)]) b ↔ m.φ 0 b := own_opq hβ
      have hgrow : ∀ b, own m2 as2.ob b → (own mr (getO osx) b ∨ w.heap.size ≤ b) := fun b hb => by
        rcases hE3.owned b hb with h1 | h1
        · exact hE2.owned b h1
        · right
          have := hE2.size
          simp at h1
          omega
      refine ⟨fun b hb => by show m4.I b; rw [g4]; exact hIsub b hb, fun b hb => ?_, fun b hb hn => ?_, fun b hb => ?_, fun n x hx => ?_, fun b hb => ?_, ?_, ?_, ?_, ?_⟩
      · have hb' : m2.I b := by rw [← g4]; exact hb
        rw [hownm]
        rcases hE3.grow b hb' with h1 | h1 | h1
        · rcases hE2.grow b h1 with h2 | h2 | h2
          · exact .inl h2
          · exact .inr (.inl ((hRF.hF b).2 (.inl h2)))
          · exact .inr (.inr h2)
        · rcases hE2.owned b h1 with h2 | h2
          · exact .inr (.inl ((hRF.hF b).2 (.inl h2)))
          · exact .inr (.inr h2)
        · right; right
          have := hE2.size
          simp at h1
          omega
      · rw [hownm, hRF.hF] at hn
        have hnl : b ≠ l := fun e => hn (.inr e)
        have hno : ¬ own mr (getO osx) b := fun h => hn (.inl h)
        show (w3.putObj l _).heap[b]? = _
        have hsz := hE2.size
        rw [World.putObj_heap_other hnl, hE3.keep b (by simp; omega) (fun h => ?_), World.putObj_heap_other hnl, hE2.keep b hb hno]
        rcases hE2.owned b h with h2 | h2
        · exact hno h2
        · omega
      · have hnl : b ≠ l := fun e => hlI (e ▸ hb)
        show (w3.putObj l _).heap[b]? = _
        rw [World.putObj_heap_other hnl, hE3.keepI b (hE2.sub b hb), World.putObj_heap_other hnl, hE2.keepI b hb]
      · have hn : n = 0 := by
          rcases Nat.eq_zero_or_pos n with h | h
          · exact h
          · rw [hfr n h] at hx; cases hx
        subst hn
        rw [hβ] at hx
        cases hx
        rw [hv]
        rfl
      · rw [own_opq (v := .func (.yield l) #[] #[]) rfl, yM_φ] at hb
        rw [hownm]
        rcases hb with hb | rfl
        · rcases hgrow b (hown4 b hb) with h1 | h1
          · exact .inl ((hRF.hF b).2 (.inl h1))
          · exact .inr h1
        · exact .inl hlF
      · exact hE3.os.trans hE2.os
      · exact hE3.tape.trans hE2.tape
      · exact hE3.output.trans hE2.output
      · show w.heap.size ≤ (w3.putObj l _).heap.size
        have h1 := hE2.size
        have h2 := hE3.size
        simp at h2 ⊢
        omega
    · show (if n = 0 then _ else none) = none
      have : n ≠ 0 := by simp at hn; omega
      rw [if_neg this]
  cases e with
  | normal => exact fin none (by rw [← hpe]; rfl)
  | ret => exact fin (some .ret) (by rw [← hpe]; rfl)
  | exit id => exact fin (some (.exit id)) (by rw [← hpe]; rfl)
  | goto t => rw [← hpe] at hj; exact hj.elim
  | panic c => rw [← hpe] at hj; exact hj.elim
  | outgrown => rw [← hpe] at hj; exact hj.elim

/-- **The statement.** -/
theorem range_sound {g : Operand} {ps : Array Tmp} {assign body : Code} (SA : WalkOk P eq assign) (SB : WalkOk P eq body) {as : AS} {Q : Exit → Nat → AS → Prop} (h : vc P eq (.rangeFunc g ps assign body) k as Q)
    {ro : Option Nat} {n s : Nat} {m : Mem} {w : World} {a : Act} (hR : Rel m w as a) (hk : Fr k m) (hA : Aux s ro w m as.ob a.defers) {Q' : Exit → Act → World → Prop} (hQ : ∀ e k' as' m' w' a', Q e k' as' → Lands s ro m w as.ob k' as' m' w' a' → Q' e a' w') :
    (Code.rangeFunc g ps assign body).wpIn (W ro) n P Q' a w := by
  obtain ⟨it, bs, bs', ι, tms, obs, pend, St, x0, y0, r, hg, hbs, ⟨σ, hent⟩, hp0, hjy, hself, hit, hround, hfin⟩ := h
  obtain ⟨m1, hR1, hE1, hfr1, htr1, hI1, hown1, hβ1⟩ := hent.sound hR hk (Ext.refl w m as.ob)
  have hgr := ev_rep hR g
  rw [hg] at hgr
  generalize hvg : a.eval g = vg at hgr
  cases hgr with
  | bf _ _ xs hxl hxr =>
  refine wpIn_rangeFunc fun fn _ => ?_
  -- the record
  obtain ⟨dfr, mark, wd, henter, hl0, hheap0, hltr, hmark⟩ : ∃ (dfr : Nat) (mark : List Deferred) (wd : World),
      (Instr.enterLoop fn a.tmps ps assign body (W ro).round).run P w = .ok (wd.heap.size, mark) (wd.alloc (.loop { state := .ready, pending := none, fn := fn, tmps := a.tmps, params := ps, assign := assign, body := body, defers := dfr })) ∧
      w.heap.size ≤ wd.heap.size ∧ (∀ b, b < w.heap.size → wd.heap[b]? = w.heap[b]?) ∧ Later w wd ∧ (mark = [] ∨ ∃ r, mark = [{ target := .collected r, args := #[] }] ∧ w.heap.size ≤ r ∧ wd.heap[r]? = some (.deferred (some []))) := by
    cases ro with
    | none =>
      refine ⟨w.heap.size, _, w.alloc (.deferred (some [])), by rw [World.size_alloc]; exact run_enterLoop_outer fn a.tmps ps assign body, by rw [World.size_alloc]; omega, fun b hb => ?_, ⟨rfl, rfl, rfl, by rw [World.size_alloc]; omega⟩, .inr ⟨_, rfl, Nat.le_refl _, World.alloc_heap_new w _⟩⟩
      show (w.heap.push _)[b]? = _
      simp [Array.getElem?_push, Nat.ne_of_lt hb]
    | some l0 =>
      obtain ⟨r0, h1, _, _⟩ := hA.rnd l0 rfl
      refine ⟨r0.defers, [], w, ?_, Nat.le_refl _, fun _ _ => rfl, Later.refl _, .inl rfl⟩
      show (Instr.enterLoop fn a.tmps ps assign body (some l0)).run P w = _
      unfold Instr.enterLoop
      simp only [Sem.run_bind, run_getLoop h1, run_newObj_alloc, Result.andThen, Sem.run_pure]
  generalize hRdef : ({ state := .ready, pending := none, fn := fn, tmps := a.tmps, params := ps, assign := assign, body := body, defers := dfr } : Loop) = R0 at henter
  let l : Nat := wd.heap.size
  let w1 : World := wd.alloc (.loop R0)
  have hl1 : w1.heap[l]? = some (.loop R0) := World.alloc_heap_new wd _
  have hw1b : ∀ b, b < wd.heap.size → w1.heap[b]? = wd.heap[b]? := fun b hb => by
    show (wd.heap.push _)[b]? = _
    simp [Array.getElem?_push, Nat.ne_of_lt hb]
  have hw1 : ∀ b, b < w.heap.size → w1.heap[b]? = w.heap[b]? := fun b hb => (hw1b b (by omega)).trans (hheap0 b hb)
  have hw1s : w1.heap.size = wd.heap.size + 1 := World.size_alloc _ _
  have hlat1 : Later w w1 := hltr.trans ⟨rfl, rfl, rfl, by omega⟩
  let F0 : Nat → Prop := fun b => own m1 (getO (obs x0)) b ∨ b = l
  have hmr1 : MR m1 w (getO (obs x0)) := hR1.mr
  have hownlt : ∀ b, own m1 (getO (obs x0)) b → b < w.heap.size := fun b hb => own.lt hmr1 hb
  have hIlt : ∀ b, m1.I b → b < w.heap.size := hmr1.imm
  have hnl : ¬ own m1 (getO (obs x0)) l := fun hb => by have := hownlt l hb; omega
  have hnIl : ¬ m1.I l := fun hb => by have := hIlt l hb; omega
  have hRF0 : RF k m a.tmps l R0 tms (obs x0) none m1 F0 w1 := by
    refine ⟨hmr1.o.later (fun _ h => h) (fun b hb => hw1 b (hIlt b hb)) rfl rfl hlat1 (fun b hb => hw1 b (hownlt b hb)) (fun b hb => own.not_I hmr1 hb), fun t => ?_, fun b => Iff.rfl, hnl, ?_, fun q x hx => ?_, fun q hq => hfr1 q (by have := hent.1; omega)⟩
    · exact (show Rep w m1 (getT tms t) (a.tmps.getD t undef) from hR1.tm t).ext (fun _ h => h) (fun b hb => hw1 b (hIlt b hb)) (fun _ _ h => h)
    · rw [hl1, ← hRdef]
      rfl
    · have hq : q < k := by
        rcases Nat.lt_or_ge q k with h | h
        · exact h
        · rw [hk q h] at hx; cases hx
      rw [hβ1 q hq]; exact hx
  have hmrc := hRF0.at (fun b hb => by have := hIlt b hb; omega) hnIl
  -- the function's contract
  have hR0a : R0.assign = assign := by rw [← hRdef]
  have hR0b : R0.body = body := by rw [← hRdef]
  have hR0t : R0.tmps = a.tmps := by rw [← hRdef]
  have hR0p : R0.params = ps := by rw [← hRdef]
  have hspec := hit (fun x => RΦ k m a.tmps l R0 tms (obs x) (pend x)) fun x args y hxy => by
    obtain ⟨h1, h2, h3, args', h4, h5⟩ := hround x args y hxy
    rw [h1]
    refine RF.cb (args' := args') (by rw [hR0a]; exact SA) (by rw [hR0b]; exact SB) hR0t hk hself h2 (by rw [hR0p]; exact h3) h4 ?_
    rw [hR0a, hR0b, hR0p, hR.size]
    exact h5
  obtain ⟨hcall, _, _, hspec⟩ := hspec
  simp only [hp0] at hspec
  obtain ⟨hbl, hbg⟩ := eqrL_get hbs
  have hcalls := hspec (yM m1.I l F0) w1 (xs ++ #[.func (.yield l) #[] #[]]) hmrc (fun q hq => by
      show (if q = 0 then _ else none) = none
      rw [if_neg (by simp at hq; omega)]) (by simp; omega) (fun i b hb => by
      by_cases hi : i < bs'.length
      · rw [List.getElem?_append_left hi] at hb
        obtain ⟨c, hc, he⟩ := hbg i b hb
        have h1 := hxr i c hc
        have h2 : Rep w m1 b (xs.getD i undef) := Rep.eqr2 (m := m) (m' := m1) (ρ := rt []) hI1 (fun n n' h => by simp [rt] at h) (fun n' h => by simp [rt] at h) h1 he
        have h3 : Rep w ⟨m1.I, fun _ => none, fun _ _ => False⟩ b (xs.getD i undef) := Rep.eqr2 (m := m) (m' := ⟨m1.I, fun _ => none, fun _ _ => False⟩) (ρ := rt []) hI1 (fun n n' h => by simp [rt] at h) (fun n' h => by simp [rt] at h) h1 he
        have h4 : Rep w1 (yM m1.I l F0) b (xs.getD i undef) := h3.ext (fun _ h => h) (fun b hb => hw1 b (hIlt b hb)) (fun _ _ h => by cases h)
        rw [Array.getD_eq_getD_getElem?] at h4 ⊢
        rw [Array.getElem?_append_left (by omega)]
        exact h4
      · rw [List.getElem?_append_right (by omega)] at hb
        have hi2 : i = bs'.length := by
          rcases Nat.lt_or_ge bs'.length i with h | h
          · rw [List.getElem?_eq_none (by simp; omega)] at hb; cases hb
          · omega
        have hb2 : b = .yl 0 := by rw [hi2] at hb; simpa using hb.symm
        subst hb2
        have : (xs ++ #[Value.func (.yield l) #[] #[]]).getD i undef = .func (.yield l) #[] #[] := by
          rw [Array.getD_eq_getD_getElem?, Array.getElem?_append_right (by omega)]
          have : i - xs.size = 0 := by omega
          rw [this]
          rfl
        rw [this]
        exact .yl _ _ _ _ rfl)
  refine ⟨l, mark, w1, { target := .fn (.func it) #[], args := xs ++ #[.func (.yield l) #[] #[]] }, w1, it, _, w1, henter, ?_, fun _ _ => trivial, by simp only [invoke, Array.append_empty]; exact run_callFunc hcall _ w1, fun h => by simp [W, Fence.wide] at h, callsIn_W (hcalls.mono fun e w' he => ?_)⟩
  · simp only [resolve, hvg, Deferred.ofValue, Sem.run_pure, List.map_toArray, List.map_cons, List.map_nil]
    rfl
  · obtain ⟨v, m', rfl, _, hm, hext, _⟩ := he
    have hβy : m'.β 0 = some (.func (.yield l) #[] #[]) := hext.beta 0 _ rfl
    obtain ⟨_, ⟨β, φ, hRF⟩, hFI⟩ := RF.open hm hβy
    let m4 : Mem := ⟨m'.I, β, φ⟩
    have hlF : m'.φ 0 l := (hRF.hF l).2 (.inr rfl)
    have hend := run_endLoop (P := P) hRF.rc (by cases (pend y0) <;> simp)
    generalize hw4 : w'.putObj l _ = w4 at hend
    have hw4l : Later w' w4 := by rw [← hw4]; exact later_put _ _ _
    have hw4b : ∀ b, b ≠ l → w4.heap[b]? = w'.heap[b]? := fun b hb => by rw [← hw4]; exact World.putObj_heap_other hb
    have hnIl' : ¬ m'.I l := (hFI l hlF).2
    have hmr4 : MR m4 w4 (getO (obs y0)) := by rw [← hw4]; exact (hRF.ob.mr hm.imm).put hRF.nl hnIl'
    have hownc : ∀ b, own (yM m1.I l F0) (obl [.opq (RΦ k m a.tmps l R0 tms (obs x0) (pend x0))]) b ↔ F0 b := fun b => by rw [own_opq (v := .func (.yield l) #[] #[]) rfl, yM_φ]
    simp only [hp0] at hownc
    have hown' : ∀ b, own m' (obl [.opq (RΦ k m a.tmps l R0 tms (obs y0) (pend y0))]) b ↔ m'.φ 0 b := own_opq hβy
    have hF0 : ∀ b, F0 b → own m as.ob b ∨ w.heap.size ≤ b := fun b hb => by
      rcases hb with hb | rfl
      · exact .inl (hown1 b hb)
      · exact .inr (by omega)
    have hE : Ext w m as.ob w4 m4 (getO (obs y0)) := by
      refine ⟨fun b hb => hext.sub b (by show m1.I b; rw [hI1]; exact hb), fun b hb => ?_, fun b hb hno => ?_, fun b hb => ?_, fun q x hx => hRF.beta q x hx, fun b hb => ?_, ?_, ?_, ?_, ?_⟩
      · rcases hext.grow b hb with h1 | h1 | h1
        · exact .inl (by rw [← hI1]; exact h1)
        · rcases hF0 b ((hownc b).1 h1) with h2 | h2
          · exact .inr (.inl h2)
          · exact .inr (.inr h2)
        · exact .inr (.inr (by omega))
      · rw [hw4b b (by omega), hext.keep b (by omega) (fun h => ?_), hw1 b hb]
        rcases hF0 b ((hownc b).1 h) with h2 | h2
        · exact hno h2
        · omega
      · have hlt : b < w.heap.size := hR.mr.imm b hb
        rw [hw4b b (by omega), hext.keepI b (by show m1.I b; rw [hI1]; exact hb), hw1 b hlt]
      · rcases hext.owned b ((hown' b).2 ((hRF.hF b).2 (.inl hb))) with h1 | h1
        · exact hF0 b ((hownc b).1 h1)
        · exact .inr (by omega)
      · exact hw4l.os.trans (hext.os.trans hlat1.os)
      · exact hw4l.tape.trans (hext.tape.trans hlat1.tape)
      · exact hw4l.output.trans (hext.output.trans hlat1.output)
      · exact Nat.le_trans hlat1.size (Nat.le_trans hext.size hw4l.size)
    have hA4 : Aux s ro w4 m4 (getO (obs y0)) (mark ++ a.defers) := by
      have hold := hA.ext hE
      rcases hmark with rfl | ⟨rr, rfl, hr1, hr2⟩
      · exact hold
      · have hrl : rr < wd.heap.size := lt_of_get hr2
        have hnF : ¬ F0 rr := fun h => by
          rcases h with h | h
          · have := hownlt rr h; omega
          · omega
        have hwr : w4.heap[rr]? = some (.deferred (some [])) := by
          rw [hw4b rr (by omega), hext.keep rr (by omega) (fun h => hnF ((hownc rr).1 h)), hw1b rr hrl]
          exact hr2
        have hno4 : ¬ own m4 (getO (obs y0)) rr := fun h => by
          rcases hext.owned rr ((hown' rr).2 ((hRF.hF rr).2 (.inl h))) with h1 | h1
          · exact hnF ((hownc rr).1 h1)
          · omega
        have hnI4 : ¬ m4.I rr := fun h => by
          rcases hext.grow rr h with h1 | h1 | h1
          · have := hIlt rr h1; omega
          · exact hnF ((hownc rr).1 h1)
          · omega
        refine ⟨fun d hd => ?_, ?_, hold.sz, hold.rnd⟩
        · rcases List.mem_append.1 hd with hd | hd
          · have : d = { target := .collected rr, args := #[] } := by simpa using hd
            exact ⟨rr, this, by have := hA.sz; omega, hwr, hno4, hnI4⟩
          · exact hold.marks d hd
        · show List.Nodup (_ :: a.defers)
          rw [List.nodup_cons]
          refine ⟨fun hmem => ?_, hA.nd⟩
          obtain ⟨r2, h1, _, h3, _⟩ := hA.marks _ hmem
          have : r2 = rr := by
            injection h1 with h1
            injection h1 with h1
            exact h1.symm
          subst this
          have := lt_of_get h3
          omega
    have hR4 : Rel m4 w4 ((LS.mk tms (obs y0)).as as.N) { a with defers := mark ++ a.defers } := by
      refine ⟨hmr4, hR.size, fun t => ?_⟩
      rw [← hw4]
      exact (show Rep w' m4 (getT tms t) (a.tmps.getD t undef) from hRF.tm t).put hnIl'
    have hL : Lands s ro m w as.ob (k + 32) ((LS.mk tms (obs y0)).as as.N) m4 w4 { a with defers := mark ++ a.defers } := ⟨hR4, fun q hq => hRF.fr q hq, hE, hA4⟩
    refine ⟨_, w4, hend, ?_⟩
    revert hfin hjy
    cases hpy : pend y0 with
    | none =>
      intro _ hfin
      exact hQ _ _ _ _ _ _ hfin hL
    | some e =>
      intro hjy hfin
      cases e with
      | ret => exact wpIn_ret (hQ _ _ _ _ _ _ hfin hL)
      | exit id => exact wpIn_exit (hQ _ _ _ _ _ _ hfin hL)
      | _ => exact hjy.elim
end
end Go.Proofs.Ytfaekiaegebmbaa.Ab
