/- A function's contract out of its code; a call by a contract. -/
import Derived.Test.YtfaekiaegebmbaaAbR
namespace Go.Proofs.Ytfaekiaegebmbaa.Ab
open Go Go.RowKit
set_option linter.unusedSimpArgs false
set_option linter.unusedVariables false

/-- The state at a function's entry. -/
def idx : Nat → List Obj → List (Nat × Obj)
  | _, [] => []
  | j, o :: l => (j, o) :: idx (j + 1) l
def entry (args : List AV) (pre : List Obj) (N : Nat) : AS := { tm := fun t => args.getD t .un, ob := getO (idx 0 pre), N := N }

def resOne (P : Program) (as : AS) : ResultVar → Option (Prop × AV)
  | .tmp t => some (True, as.tm t)
  | .cell a t => pLoad P as t (as.tm a)
def resAll (P : Program) (as : AS) : List ResultVar → Option (Prop × List AV)
  | [] => some (True, [])
  | r :: l => match resOne P as r, resAll P as l with
    | some (p, v), some (q, vs) => some (p ∧ q, v :: vs)
    | _, _ => none
def resV : List AV → AV
  | [v] => v
  | l => .tup l

/-- What is asked at a function's end. -/
def Fin (P : Program) (rs : List ResultVar) (n : Nat) (r : AV) (post : List Obj) (as : AS) : Prop := match resAll P as rs with
  | some (p, vs) => p ∧ ∃ σ : List (Option Nat), n + σ.length ≤ post.length ∧ eqr (rn n σ) (resV vs) r ∧ Ent n as σ ⟨[], idx 0 post⟩
  | none => False

section
variable {P : Program} {m : Mem} {w : World} {as : AS} {a : Act}

theorem getO_idx : ∀ (objs : List Obj) (j n : Nat), getO (idx j objs) n = if j ≤ n then objs[n - j]? else none
  | [], j, n => by simp [idx, getO]
  | o :: l, j, n => by
    simp only [idx, getO]
    rw [getO_idx l (j + 1) n]
    by_cases h : n = j
    · subst h
      rw [if_pos rfl, if_pos (Nat.le_refl _), Nat.sub_self]
      rfl
    · rw [if_neg h]
      by_cases h2 : j + 1 ≤ n
      · rw [if_pos h2, if_pos (by omega)]
        have : n - j = (n - (j + 1)) + 1 := by omega
        rw [this, List.getElem?_cons_succ]
      · rw [if_neg h2, if_neg (by omega)]

theorem resOne_run (hR : Rel m w as a) {v : ResultVar} {p : Prop} {c : AV} (h : resOne P as v = some (p, c)) (hp : p) : ∃ x, (match v with
    | .tmp t => pure (a.tmps.getD t undef)
    | .cell b t => do loadVar t (← asAddr (a.tmps.getD b undef)) : Sem Value).run P w = .ok x w ∧ Rep w m c x := by
  cases v with
  | tmp t => cases h; exact ⟨_, rfl, hR.tm t⟩
  | cell b t =>
    obtain ⟨u, hu, hr⟩ := pLoad_run hR (P := P) h hp (hR.tm b)
    refine ⟨u, ?_, hr⟩
    simp only
    revert hu
    generalize a.tmps.getD b undef = y
    intro hu
    cases y <;> simp_all [Instr.loadAt, Instr.sureAddr, asAddr]
    rename_i o
    cases o <;> simp_all

theorem resAll_run (hR : Rel m w as a) : ∀ {l : List ResultVar} {p : Prop} {cs : List AV}, resAll P as l = some (p, cs) → p → ∃ xs : List Value, (l.mapM fun v => (match v with
    | .tmp t => pure (a.tmps.getD t undef)
    | .cell b t => do loadVar t (← asAddr (a.tmps.getD b undef)) : Sem Value)).run P w = .ok xs w ∧ cs.length = xs.length ∧ ∀ (i : Nat) c, cs[i]? = some c → Rep w m c (xs.getD i undef)
  | [], p, cs, h, hp => by cases h; exact ⟨[], rfl, rfl, fun i c hc => by simp at hc⟩
  | v :: l, p, cs, h, hp => by
    unfold resAll at h
    split at h
    · rename_i q c q' cs' h1 h2
      cases h
      obtain ⟨x, hx, hxr⟩ := resOne_run hR h1 hp.1
      obtain ⟨xs, hxs, hl, hr⟩ := resAll_run hR h2 hp.2
      refine ⟨x :: xs, ?_, by simp [hl], fun i c' hc => ?_⟩
      · rw [List.mapM_cons, Sem.run_bind, hx, Result.andThen_ok, Sem.run_bind, hxs, Result.andThen_ok]
        rfl
      · cases i with
        | zero => simp at hc; subst hc; simpa using hxr
        | succ i => simpa using hr i c' (by simpa using hc)
    · cases h

theorem results_run (hR : Rel m w as a) {fn : Func} {p : Prop} {cs : List AV} (h : resAll P as fn.results.toList = some (p, cs)) (hp : p) : ∃ x, (results fn a.tmps).run P w = .ok x w ∧ Rep w m (resV cs) x := by
  obtain ⟨xs, hx, hl, hr⟩ := resAll_run hR h hp
  have hm : (fn.results.mapM fun v => (match v with
    | .tmp t => pure (a.tmps.getD t undef)
    | .cell b t => do loadVar t (← asAddr (a.tmps.getD b undef)) : Sem Value)).run P w = .ok xs.toArray w := by
    rw [Array.mapM_eq_mapM_toList, Sem.run_map, hx]
    rfl
  have hres : (results fn a.tmps).run P w = .ok (if h : xs.toArray.size = 1 then xs.toArray[0] else .tuple xs.toArray) w := by
    unfold results
    rw [Sem.run_bind]
    erw [hm]
    rfl
  refine ⟨_, hres, ?_⟩
  clear hx hm hres h
  match cs, xs, hl, hr with
  | [c], [x], _, hr => simpa [resV] using hr 0 c rfl
  | [], [], _, _ => exact .tup _ _ rfl (fun i c hc => by simp at hc)
  | c :: c' :: cs, x :: x' :: xs, hl, hr =>
    have : ¬ ((x :: x' :: xs).toArray.size = 1) := by simp
    rw [dif_neg this]
    refine .tup _ _ (by simpa using hl) (fun i d hd => ?_)
    have := hr i d hd
    simpa [Array.getD_eq_getD_getElem?, List.getD_eq_getElem?_getD] using this

/-- The world behind the marks: what was there stands. -/
def Turned (s : Nat) (m : Mem) (ob : Nat → Option Obj) (w w' : World) : Prop := Later w w' ∧ ∀ b, b < s ∨ own m ob b ∨ m.I b → w'.heap[b]? = w.heap[b]?
theorem leaves_marks {s n : Nat} {fn : Func} {tmps : Array Value} {R : Ending → World → Prop} {ob : Nat → Option Obj} : ∀ (ds : List Deferred) (w : World), Aux s none w m ob ds →
    (∀ w', Turned s m ob w w' → ∃ v, (results fn tmps).run P w' = .ok v w' ∧ R (.returned v) w') → LeavesInM Fence.wide n P fn tmps R ds .returning w
  | [], w, _, h => h w ⟨Later.refl w, fun _ _ => rfl⟩
  | d :: ds, w, hA, h => by
    obtain ⟨r, h1, h2, h3, h4, h5⟩ := hA.marks d (by simp)
    have hnd := List.nodup_cons.1 hA.nd
    refine ⟨by simp, .inl ⟨r, _, by rw [h1], run_takeDeferred h3, leaves_marks (ob := ob) ds _ ⟨fun d' hd' => ?_, hnd.2, by simpa using hA.sz, fun l hl => by cases hl⟩ fun w' hw => h w' ⟨(later_put _ _ _).trans hw.1, fun b hb => ?_⟩⟩⟩
    · obtain ⟨r', g1, g2, g3, g4, g5⟩ := hA.marks d' (by simp [hd'])
      refine ⟨r', g1, g2, ?_, g4, g5⟩
      rw [World.putObj_heap_other (fun e => hnd.1 (by rw [h1, ← e, ← g1]; exact hd'))]
      exact g3
    · rw [hw.2 b hb]
      refine World.putObj_heap_other (fun e => ?_)
      subst e
      rcases hb with hb | hb | hb
      · omega
      · exact h4 hb
      · exact h5 hb
theorem Turned.rel {s : Nat} {w w' w0 : World} {m0 : Mem} {ob0 : Nat → Option Obj} {as : AS} {a : Act} (h : Turned s m as.ob w w') (hR : Rel m w as a) (hE : Ext w0 m0 ob0 w m as.ob) (hs : w0.heap.size ≤ s) (hi0 : ∀ b, m0.I b → b < w0.heap.size) : Rel m w' as a ∧ Ext w0 m0 ob0 w' m as.ob := by
  have hkI : ∀ b, m.I b → w'.heap[b]? = w.heap[b]? := fun b hb => h.2 b (.inr (.inr hb))
  refine ⟨⟨(hR.mr.o.later (fun _ h => h) hkI rfl rfl h.1 (fun b hb => h.2 b (.inr (.inl hb))) (fun b hb => own.not_I hR.mr hb)).mr fun b hb => Nat.lt_of_lt_of_le (hR.mr.imm b hb) h.1.size, hR.size, fun t => (hR.tm t).ext (fun _ h => h) hkI (fun _ _ h => h)⟩, ?_⟩
  refine ⟨hE.sub, hE.grow, fun b hb hn => (h.2 b (.inl (by omega))).trans (hE.keep b hb hn), fun b hb => (h.2 b (.inl (by have := hi0 b hb; omega))).trans (hE.keepI b hb), hE.beta, hE.owned, h.1.os.trans hE.os, h.1.tape.trans hE.tape, h.1.output.trans hE.output, Nat.le_trans hE.size h.1.size⟩

/-- **A function's contract.** -/
theorem spec_of {eq : TypeId → Option (List Value)} {f : FuncId} {fn : Func} {c : Code} {args : List AV} {pre post : List Obj} {r : AV} {N : Nat} {rs : List ResultVar} (hN : fn.ntmps = N) (hrs : fn.results.toList = rs) (hf : P.funcs[f]? = some fn) (hb : fn.body = some c) (hname : (fn.name == "runtime.NumGoroutine") = false) (hok : drawsOk c = true)
    (hargs : args.length ≤ N) (hp8 : pre.length ≤ 8) (hp : pre.length ≤ post.length) (hol : post.length ≤ pre.length + 8)
    (h : vc P eq c 8 (entry args pre N) fun e _ as' => (e = .ret ∨ e = .normal) ∧ Fin P rs pre.length r post as') : SpecG P f args pre r post := by
  subst hN hrs
  refine ⟨⟨fn, hf, hname, by rw [hb]; rfl⟩, hp, hol, fun m0 w vs hmr hfr hvs hrep => ?_⟩
  refine (callsIn_wide (n := 0)).1 (callsIn_of_wp_marks hf hb trivial ?_)
  have hidx : ∀ objs, getO (idx 0 objs) = obl objs := fun objs => by
    funext n
    rw [getO_idx]
    simp [obl]
  have hR : Rel m0 w (entry args pre fn.ntmps) { tmps := vs ++ Array.replicate (fn.ntmps - vs.size) undef, defers := [] } := by
    refine ⟨by show MR m0 w (getO (idx 0 pre)); rw [hidx]; exact hmr, by simp [entry]; omega, fun t => ?_⟩
    show Rep w m0 (args.getD t .un) _
    rw [List.getD_eq_getElem?_getD]
    cases ha : args[t]? with
    | none => exact .un _
    | some b =>
      have ht : t < vs.size := by
        rcases Nat.lt_or_ge t args.length with h | h
        · omega
        · rw [List.getElem?_eq_none h] at ha; cases ha
      have := hrep t b ha
      rw [Array.getD_eq_getD_getElem?] at this ⊢
      rw [Array.getElem?_append_left ht]
      exact this
  have := vc_sound c 8 _ _ hok h (ro := none) (n := 0) (s := w.heap.size) hR (fun n hn => hfr n (by omega)) (Aux.nil (Nat.le_refl _)) (Q' := bodyPostM Fence.wide 0 P fn fun e w' => ∃ v m', e = .returned v ∧ Rep w' m' r v ∧ MR m' w' (obl post) ∧ Ext w m0 (obl pre) w' m' (obl post) ∧ ∀ n, post.length ≤ n → m'.β n = none) (fun e k' as' m' w' a' hq hL => ?_)
  · exact this
  · obtain ⟨he, hfin⟩ := hq
    unfold Fin at hfin
    split at hfin
    · rename_i p cs hres
      obtain ⟨hp, σ, hσ, hr, hent⟩ := hfin
      have fin : LeavesInM Fence.wide 0 P fn a'.tmps (fun e w' => ∃ v m', e = .returned v ∧ Rep w' m' r v ∧ MR m' w' (obl post) ∧ Ext w m0 (obl pre) w' m' (obl post) ∧ ∀ n, post.length ≤ n → m'.β n = none) a'.defers .returning w' := by
        refine leaves_marks _ _ hL.2.2.2 fun w2 hw2 => ?_
        have hE0 := hL.2.2.1
        rw [show (entry args pre fn.ntmps).ob = obl pre from hidx pre] at hE0
        obtain ⟨hR2, hE⟩ := hw2.rel hL.1 hE0 (Nat.le_refl _) hmr.imm
        obtain ⟨x, hx, hxr⟩ := results_run hR2 hres hp
        obtain ⟨m2, g1, g2, g3, g4, _⟩ := hent.sound hR2 (fun n hn => hfr n hn : Fr pre.length m0) hE
        have hob : ((⟨[], idx 0 post⟩ : LS).as as'.N).ob = obl post := hidx post
        have hR3 := g1.mr
        rw [hob] at hR3 g2
        exact ⟨x, hx, x, m2, rfl, g4 _ _ _ hr hxr, hR3, g2, fun n hn => g3 n (by omega)⟩
      rcases he with rfl | rfl
      · exact fin
      · exact fin
    · exact hfin.elim

end
end Go.Proofs.Ytfaekiaegebmbaa.Ab
