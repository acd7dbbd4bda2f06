/- The same, with what is still to come as data: for the simplifier. -/
import Derived.Test.YtfaekiaegebmbaaAbO
namespace Go.Proofs.Ytfaekiaegebmbaa.Ab
open Go Go.RowKit
set_option linter.unusedSimpArgs false
set_option linter.unusedVariables false

theorem upd_app {α : Type} (f : Nat → α) (j : Nat) (v : α) (i : Nat) : upd f j v i = if i = j then v else f i := rfl

/-- the element at a place (of a place beyond: whatever) -/
def nth {α : Type} [Inhabited α] (l : List α) (i : Nat) : α := l.getD i default
theorem nth_map {α : Type} [Inhabited α] (f : α → List DV) (l : List α) (i : Nat) (h : i < l.length) : (l.map f).getD i [] = f (nth l i) := by
  simp [nth, List.getD_eq_getElem?_getD, h]
theorem nth_mapI {α : Type} [Inhabited α] (f : α → List DV) (l : List α) (x : Int) (h0 : 0 ≤ x) (h : x < (l.length : Int)) : (l.map f).getD x.toNat [] = f (nth l x.toNat) := nth_map f l _ (by omega)

/-- The two lists of a state, looked up at one place only. -/
def tmOf (l : List (Nat × AV)) (t : Nat) : AV := getT l t
def obOf (l : List (Nat × Obj)) (t : Nat) : Option Obj := getO l t
theorem as_tm (L : LS) (N : Nat) : (L.as N).tm = tmOf L.tms := rfl
theorem as_eq (T : List (Nat × AV)) (O : List (Nat × Obj)) (N : Nat) : (LS.mk T O).as N = { tm := tmOf T, ob := obOf O, N := N } := rfl
theorem tmOf_nil (t : Nat) : tmOf [] t = .un := rfl
theorem tmOf_cons (i : Nat) (v : AV) (l : List (Nat × AV)) (t : Nat) : tmOf ((i, v) :: l) t = if t = i then v else tmOf l t := rfl
theorem obOf_nil (t : Nat) : obOf [] t = none := rfl
theorem obOf_cons (i : Nat) (v : Obj) (l : List (Nat × Obj)) (t : Nat) : obOf ((i, v) :: l) t = if t = i then some v else obOf l t := rfl

/-- Both ways of a condition; one, if it is known. -/
def onB (b want : Bool) (X Y : Prop) : Prop := (b = want → X) ∧ (b = !want → Y)
theorem onB_tt (X Y : Prop) : onB true true X Y = X := by simp [onB]
theorem onB_ff (X Y : Prop) : onB false false X Y = X := by simp [onB]
theorem onB_tf (X Y : Prop) : onB true false X Y = Y := by simp [onB]
theorem onB_ft (X Y : Prop) : onB false true X Y = Y := by simp [onB]
theorem onB_t (b : Bool) (X Y : Prop) : onB b true X Y = ((b = true → X) ∧ (b = false → Y)) := rfl
theorem onB_f (b : Bool) (X Y : Prop) : onB b false X Y = ((b = false → X) ∧ (b = true → Y)) := rfl

/-- What is still to come. -/
inductive Wk where
  | code (c : Code)
  | blk (id : Nat)
  | lp (B : AS → Prop)
  | asg (c : Code)
  | rd (B : Exit → AS → Prop)

def Qst (P : Program) (eq : TypeId → Option (List Value)) (R : AS → Prop) : List Wk → Exit → Nat → AS → Prop
  | [], e, _, as => (e = .ret ∨ e = .normal) ∧ R as
  | .code c :: st, e, k, as => match e with
    | .normal => vc P eq c k as (Qst P eq R st)
    | e => Qst P eq R st e k as
  | .blk id :: st, e, k, as => match e with
    | .exit j => if j = id then Qst P eq R st .normal k as else Qst P eq R st (.exit j) k as
    | e => Qst P eq R st e k as
  | .lp B :: st, e, k, as => match e with
    | .normal => B as
    | e => Qst P eq R st e k as
  | .asg c :: st, e, k, as => e = .normal ∧ vc P eq c k as (Qst P eq R st)
  | .rd B :: _, e, _, as => B e as

def goC (P : Program) (eq : TypeId → Option (List Value)) (R : AS → Prop) (c : Code) (st : List Wk) (k : Nat) (as : AS) : Prop := vc P eq c k as (Qst P eq R st)

/-- The record of a region whose order is drawn; none: the text's order. -/
abbrev Lg := Option (List (List Nat × List Nat))
def vcU (P : Program) (eq : TypeId → Option (List Value)) (ops : Array Oper) (lg : Lg) (k : Nat) (l : List Oper) (as : AS) (K : AS → Prop) : Prop := match lg with
  | none => vcOps P eq ops k l as K
  | some log => vcOpsD P eq ops k l log as K
def chkL (ops : Array Oper) (lg : Lg) (as : AS) (o : Op) (ch : List (Nat × Option Obj)) : Prop := match lg with
  | none => True
  | some log => chk ops log.length (fpt as o) (ch.map (·.1)) 0 log
def advL (lg : Lg) (as : AS) (o : Op) (ch : List (Nat × Option Obj)) : Lg := lg.map fun log => log ++ [(fpt as o, ch.map (·.1))]
def skpL (lg : Lg) : Lg := lg.map fun log => log ++ [([], [])]

def goO (P : Program) (eq : TypeId → Option (List Value)) (R : AS → Prop) (ops : Array Oper) (lg : Lg) (k : Nat) (l : List Oper) (st : List Wk) (k1 : Nat) (as : AS) : Prop :=
  vcU P eq ops lg k l as fun as' => Qst P eq R st .normal k1 as'

section
variable {P : Program} {eq : TypeId → Option (List Value)} {R : AS → Prop} {st : List Wk} {k : Nat} {as : AS}

theorem goC_skip : goC P eq R .skip st k as = Qst P eq R st .normal k as := rfl
theorem goC_ret : goC P eq R .ret st k as = Qst P eq R st .ret k as := rfl
theorem goC_exit (id : Nat) : goC P eq R (.exit id) st k as = Qst P eq R st (.exit id) k as := rfl
theorem goC_seq (c d : Code) : goC P eq R (.seq c d) st k as = goC P eq R c (.code d :: st) k as := by
  simp only [goC, vc]
  congr 1
theorem goC_block (id : Nat) (c : Code) : goC P eq R (.block id c) st k as = goC P eq R c (.blk id :: st) k as := by
  simp only [goC, vc]
  congr 1
def goIf (P : Program) (eq : TypeId → Option (List Value)) (R : AS → Prop) (v : AV) (c d : Code) (st : List Wk) (k : Nat) (as : AS) : Prop := onCond v (fun b => (b = true → goC P eq R c st k as) ∧ (b = false → goC P eq R d st k as))
theorem goC_cond (x : Operand) (c d : Code) : goC P eq R (.cond x c d) st k as = goIf P eq R (ev as x) c d st k as := rfl
theorem goIf_bool (b : Bool) (c d : Code) : goIf P eq R (.v (.bool b)) c d st k as = onB b true (goC P eq R c st k as) (goC P eq R d st k as) := rfl
theorem goIf_bl (ct cf : Prop) (c d : Code) : goIf P eq R (.bl ct cf) c d st k as = ((ct → goC P eq R c st k as) ∧ (cf → goC P eq R d st k as)) := by
  apply propext
  constructor
  · intro h; exact ⟨fun h1 => (h.1 h1).1 rfl, fun h2 => (h.2 h2).2 rfl⟩
  · rintro ⟨h1, h2⟩; exact ⟨fun h => ⟨fun _ => h1 h, fun h => (by cases h)⟩, fun h => ⟨fun h => (by cases h), fun _ => h2 h⟩⟩
theorem goC_region (id : Nat) (ops : Array Oper) : goC P eq R (.region id ops false) st k as = goO P eq R ops none k ops.toList st (k + 8 * ops.size) as := rfl
theorem goC_draw (id : Nat) (ops : Array Oper) : goC P eq R (.region id ops true) st k as = goO P eq R ops (some []) k ops.toList st (k + 8 * ops.size) as := rfl
theorem Qst_nil_ret : Qst P eq R [] .ret k as = R as := by simp [Qst]
theorem Qst_nil_normal : Qst P eq R [] .normal k as = R as := by simp [Qst]
theorem Qst_code_normal (c : Code) : Qst P eq R (.code c :: st) .normal k as = goC P eq R c st k as := rfl
theorem Qst_code_ret (c : Code) : Qst P eq R (.code c :: st) .ret k as = Qst P eq R st .ret k as := rfl
theorem Qst_code_exit (c : Code) (id : Nat) : Qst P eq R (.code c :: st) (.exit id) k as = Qst P eq R st (.exit id) k as := rfl
theorem Qst_blk_normal (id : Nat) : Qst P eq R (.blk id :: st) .normal k as = Qst P eq R st .normal k as := rfl
theorem Qst_blk_ret (id : Nat) : Qst P eq R (.blk id :: st) .ret k as = Qst P eq R st .ret k as := rfl
theorem Qst_blk_exit (id j : Nat) : Qst P eq R (.blk id :: st) (.exit j) k as = if j = id then Qst P eq R st .normal k as else Qst P eq R st (.exit j) k as := rfl
theorem Qst_lp_normal (B : AS → Prop) : Qst P eq R (.lp B :: st) .normal k as = B as := rfl
theorem Qst_lp_ret (B : AS → Prop) : Qst P eq R (.lp B :: st) .ret k as = Qst P eq R st .ret k as := rfl
theorem Qst_lp_exit (B : AS → Prop) (id : Nat) : Qst P eq R (.lp B :: st) (.exit id) k as = Qst P eq R st (.exit id) k as := rfl

theorem Qst_asg_normal (c : Code) : Qst P eq R (.asg c :: st) .normal k as = goC P eq R c st k as := by simp [Qst, goC]
theorem Qst_rd (B : Exit → AS → Prop) (e : Exit) : Qst P eq R (.rd B :: st) e k as = B e as := by cases e <;> rfl

/-- **A range over a function.** -/
theorem goC_range {g : Operand} {ps : Array Tmp} {assign body : Code} {it : FuncId} {bs bs' : List AV} {ι : Type} (tms : List (Nat × AV)) (obs : ι → List (Nat × Obj)) (pend : ι → Option Exit) (St : ι → List AV → ι → Prop) (x0 y0 : ι) (r : AV) (σ : List (Option Nat))
    (hg : ev as g = .bf it bs) (hbs : eqrL (eqr2 (rt [])) bs bs') (h0 : Ent k as σ ⟨tms, obs x0⟩) (hp0 : pend x0 = none) (hjy : jumpOk (pend y0)) (hself : ∀ σ, tmsSelf (rn k σ) tms)
    (hit : ∀ Φ : ι → Value → (Nat → Prop) → (Nat → Prop) → World → Prop, (∀ x args y, St x args y → CbG P args [.opq (Φ x)] (.v (.bool (pend y).isNone)) [.opq (Φ y)]) → SpecG P it (bs' ++ [.yl 0]) [.opq (Φ x0)] r [.opq (Φ y0)])
    (hround : ∀ x args y, St x args y → pend x = none ∧ jumpOk (pend y) ∧ args.length = ps.size ∧ ∃ args', eqrL (eqr2 (rt [])) args args' ∧
      ∀ B : Exit → AS → Prop, (∀ e as' σ, pendOf e = pend y → Ent k as' σ ⟨[], obs y⟩ → B e as') → goC P eq R assign [.asg body, .rd B] (k + 32) (putAll ((LS.mk tms (obs x)).as as.N) ps.toList args'))
    (hfin : match pend y0 with
      | none => Qst P eq R st .normal (k + 32) ((LS.mk tms (obs y0)).as as.N)
      | some e => Qst P eq R st e (k + 32) ((LS.mk tms (obs y0)).as as.N)) : goC P eq R (.rangeFunc g ps assign body) st k as := by
  refine ⟨it, bs, bs', ι, tms, obs, pend, St, x0, y0, r, hg, hbs, ⟨σ, h0⟩, hp0, hjy, hself, hit, fun x args y hxy => ?_, hfin⟩
  obtain ⟨h1, h2, h3, args', h4, h5⟩ := hround x args y hxy
  refine ⟨h1, h2, h3, args', h4, ?_⟩
  have h6 := h5 (fun e as' => pendOf e = pend y ∧ ∃ σ, Ent k as' σ ⟨[], obs y⟩) (fun e as' σ he hs => ⟨he, σ, hs⟩)
  unfold goC at h6
  have e1 : Qst P eq R [.asg body, .rd (fun e as' => pendOf e = pend y ∧ ∃ σ, Ent k as' σ ⟨[], obs y⟩)] = fun e k1 as1 => e = .normal ∧ vc P eq body k1 as1 fun e k2 as2 => pendOf e = pend y ∧ ∃ σ, Ent k as2 σ ⟨[], obs y⟩ := by
    funext e k1 as1
    have e2 : Qst P eq R [.rd (fun e as' => pendOf e = pend y ∧ ∃ σ, Ent k as' σ ⟨[], obs y⟩)] = fun e k2 as2 => pendOf e = pend y ∧ ∃ σ, Ent k as2 σ ⟨[], obs y⟩ := by
      funext e k2 as2
      exact Qst_rd _ e
    rw [← e2]
    cases e <;> rfl
  rw [e1] at h6
  exact h6

/-- A range over a function that is not left before its end: n rounds. -/
theorem goC_rangeN {g : Operand} {ps : Array Tmp} {assign body : Code} {it : FuncId} {bs bs' : List AV} (n : Nat) (A A' : Nat → List AV) (tms : List (Nat × AV)) (obs : Nat → List (Nat × Obj)) (r : AV) (σ : List (Option Nat))
    (hg : ev as g = .bf it bs) (hbs : eqrL (eqr2 (rt [])) bs bs') (h0 : Ent k as σ ⟨tms, obs 0⟩) (hself : ∀ σ, tmsSelf (rn k σ) tms)
    (hit : ∀ Φ : Nat → Value → (Nat → Prop) → (Nat → Prop) → World → Prop, (∀ i, i < n → CbG P (A i) [.opq (Φ i)] (.v (.bool true)) [.opq (Φ (i + 1))]) → SpecG P it (bs' ++ [.yl 0]) [.opq (Φ 0)] r [.opq (Φ n)])
    (hA : ∀ i, i < n → (A i).length = ps.size ∧ eqrL (eqr2 (rt [])) (A i) (A' i))
    (hround : ∀ i, i < n → ∀ B : Exit → AS → Prop, (∀ as' σ, Ent k as' σ ⟨[], obs (i + 1)⟩ → B .normal as') → goC P eq R assign [.asg body, .rd B] (k + 32) (putAll ((LS.mk tms (obs i)).as as.N) ps.toList (A' i)))
    (hfin : Qst P eq R st .normal (k + 32) ((LS.mk tms (obs n)).as as.N)) : goC P eq R (.rangeFunc g ps assign body) st k as := by
  refine goC_range tms obs (fun _ => none) (fun i args j => i < n ∧ args = A i ∧ j = i + 1) 0 n r σ hg hbs h0 rfl trivial hself (fun Φ h => hit Φ fun i hi => h i _ _ ⟨hi, rfl, rfl⟩) (fun i args j h => ?_) hfin
  obtain ⟨hi, rfl, rfl⟩ := h
  refine ⟨rfl, trivial, (hA i hi).1, A' i, (hA i hi).2, fun B hB => hround i hi B fun as' σ h => hB .normal as' σ rfl h⟩

/-- **A loop.** -/
theorem goC_loop {c : Code} {α : Type} (J : α → LS) (μ : α → Nat) (x0 : α) (σ : List (Option Nat)) (h0 : Ent k as σ (J x0))
    (h : ∀ x (B : AS → Prop), (∀ (as' : AS) y σ, μ y < μ x → as'.N = as.N → Ent k as' σ (J y) → B as') → goC P eq R c (.lp B :: st) (k + 32) ((J x).as as.N)) : goC P eq R (.loop c) st k as := by
  refine ⟨α, J, μ, x0, ⟨σ, h0⟩, fun x => ?_⟩
  have hx := h x (fun as' => ∃ y, μ y < μ x ∧ as'.N = as.N ∧ ∃ σ, Ent k as' σ (J y)) (fun as' y σ h1 h2 h3 => ⟨y, h1, h2, σ, h3⟩)
  unfold goC at hx
  have e : (fun e k' as' => match e with
    | .normal => ∃ y, μ y < μ x ∧ as'.N = as.N ∧ ∃ σ, Ent k as' σ (J y)
    | e => Qst P eq R st e k' as' : Exit → Nat → AS → Prop) = Qst P eq R (.lp (fun as' => ∃ y, μ y < μ x ∧ as'.N = as.N ∧ ∃ σ, Ent k as' σ (J y)) :: st) := by
    funext e k' as'
    cases e <;> rfl
  rw [← e] at hx
  exact hx

variable {ops : Array Oper} {lg : Lg} {l : List Oper} {k1 : Nat}

theorem goO_nil : goO P eq R ops lg k [] st k1 as = Qst P eq R st .normal k1 as := by
  cases lg <;> rfl

/-- after a pure operation -/
def onP (P : Program) (eq : TypeId → Option (List Value)) (R : AS → Prop) (ops : Array Oper) (lg : Lg) (k : Nat) (o : Op) (dst : Option Tmp) (l : List Oper) (st : List Wk) (k1 : Nat) (as : AS) (x : Option (Prop × AV)) : Prop := match x with
  | some (p, r) => p ∧ (p → chkL ops lg as o [] ∧ goO P eq R ops (advL lg as o []) (k + 8) l st k1 (as.put dst r))
  | none => False
def onM (P : Program) (eq : TypeId → Option (List Value)) (R : AS → Prop) (ops : Array Oper) (lg : Lg) (k : Nat) (o : Op) (dst : Option Tmp) (l : List Oper) (st : List Wk) (k1 : Nat) (as : AS) (pre : List (Nat × Option Obj)) (x : Option (Prop × AV × List (Nat × Option Obj))) : Prop := match x with
  | some (p, r, set) => p ∧ (p → chkL ops lg as o (pre ++ set) ∧ goO P eq R ops (advL lg as o (pre ++ set)) (k + 8) l st k1 ((as.chg (pre ++ set)).put dst r))
  | none => False
def onF (P : Program) (eq : TypeId → Option (List Value)) (R : AS → Prop) (ops : Array Oper) (lg : Lg) (k : Nat) (o : Op) (dst : Option Tmp) (l : List Oper) (st : List Wk) (k1 : Nat) (as : AS) (args : List AV) (x : AV) : Prop := match x with
  | .fn g cap => vcCall (SpecG P g) none k as (fpt as o) (args ++ cap) fun ch r => chkL ops lg as o ch ∧ goO P eq R ops (advL lg as o ch) (k + 8) l st k1 ((as.chg ch).put dst r)
  | .yl n => vcCall (CbG P) (some n) k as (fpt as o) args fun ch r => chkL ops lg as o ch ∧ goO P eq R ops (advL lg as o ch) (k + 8) l st k1 ((as.chg ch).put dst r)
  | _ => False
theorem onP_some (o : Op) (dst : Option Tmp) (p : Prop) (r : AV) : onP P eq R ops lg k o dst l st k1 as (some (p, r)) = (p ∧ (p → chkL ops lg as o [] ∧ goO P eq R ops (advL lg as o []) (k + 8) l st k1 (as.put dst r))) := rfl
/-- a load from an element of a slice whose rows are the images of a list -/
def elpMap (c : Prop) (ag : Bool) (k sz n : Nat) (row : List DV) (i off : Nat) : Option (Prop × AV) := some (c ∧ i < n ∧ off + k ≤ sz ∧ (ag = false → k = 1), mkVal ag (((row.drop off).take k).map ofD))
theorem onP_elp (o : Op) (dst : Option Tmp) (c : Prop) (ag : Bool) (k2 sz : Nat) {α : Type} [Inhabited α] (f : α → List DV) (L : List α) (i off : Nat) : onP P eq R ops lg k o dst l st k1 as (elpLoad c ag k2 sz (L.map f) i off) = onP P eq R ops lg k o dst l st k1 as (elpMap c ag k2 sz L.length (f (nth L i)) i off) := by
  unfold elpLoad elpMap onP
  simp only [List.length_map]
  apply propext
  constructor
  · rintro ⟨h1, h2⟩
    refine ⟨h1, fun h => ?_⟩
    have := h2 h
    rwa [nth_map f L i h.2.1] at this
  · rintro ⟨h1, h2⟩
    refine ⟨h1, fun h => ?_⟩
    rw [nth_map f L i h.2.1]
    exact h2 h
theorem onM_some (o : Op) (dst : Option Tmp) (pre : List (Nat × Option Obj)) (p : Prop) (r : AV) (set : List (Nat × Option Obj)) : onM P eq R ops lg k o dst l st k1 as pre (some (p, r, set)) = (p ∧ (p → chkL ops lg as o (pre ++ set) ∧ goO P eq R ops (advL lg as o (pre ++ set)) (k + 8) l st k1 ((as.chg (pre ++ set)).put dst r))) := rfl

/-- The step that is to be taken, whatever the guard. -/
theorem goO_plain (o : Oper) (hg : o.guard = none) : goO P eq R ops lg k (o :: l) st k1 as = vcOp P eq k as o fun ch r => chkL ops lg as o.op ch ∧ goO P eq R ops (advL lg as o.op ch) (k + 8) l st k1 ((as.chg ch).put o.dst r) := by
  cases lg with
  | none =>
    show vcOps P eq ops k (o :: l) as _ = _
    rw [vcOps, hg]
    simp only
    congr 1
    funext ch r
    simp only [chkL, true_and, goO, vcU, advL, Option.map_none]
  | some log =>
    show vcOpsD P eq ops k (o :: l) log as _ = _
    rw [vcOpsD, hg]
    rfl

variable {dst : Option Tmp} {ty : TypeId} {pos : String} {aft : Array Edge}

def onG (P : Program) (eq : TypeId → Option (List Value)) (R : AS → Prop) (ops : Array Oper) (lg : Lg) (k : Nat) (o : Oper) (t : Tmp) (want : Bool) (l : List Oper) (st : List Wk) (k1 : Nat) (as : AS) (x : AV) : Prop :=
  onBool x (fun b => (b = want → goO P eq R ops lg k (o :: l) st k1 (as.know t want)) ∧ (b = !want → goO P eq R ops (skpL lg) (k + 8) l st k1 ((as.know t !want).put o.dst (.v undef)))) (goO P eq R ops (skpL lg) (k + 8) l st k1 (as.put o.dst (.v undef)))
def onGd (P : Program) (eq : TypeId → Option (List Value)) (R : AS → Prop) (ops : Array Oper) (lg : Lg) (k : Nat) (o : Oper) (want : Bool) (l : List Oper) (st : List Wk) (k1 : Nat) (as : AS) (x : Option Tmp) : Prop := match x with
  | some t => onG P eq R ops lg k o t want l st k1 as (as.tm t)
  | none => False
theorem onGd_some (o : Oper) (want : Bool) (t : Tmp) : onGd P eq R ops lg k o want l st k1 as (some t) = onG P eq R ops lg k o t want l st k1 as (as.tm t) := rfl
theorem onG_bool (o : Oper) (t : Tmp) (want b : Bool) : onG P eq R ops lg k o t want l st k1 as (.v (.bool b)) = onB b want (goO P eq R ops lg k (o :: l) st k1 (as.know t want)) (goO P eq R ops (skpL lg) (k + 8) l st k1 ((as.know t !want).put o.dst (.v undef))) := rfl
theorem onG_undef (o : Oper) (t : Tmp) (want : Bool) (x : Array Value) : onG P eq R ops lg k o t want l st k1 as (.v (.tuple x)) = goO P eq R ops (skpL lg) (k + 8) l st k1 (as.put o.dst (.v undef)) := rfl
theorem vcOp_guard (as : AS) (k : Nat) (op : Op) (gu : Option (Nat × Bool)) (K : List (Nat × Option Obj) → AV → Prop) : vcOp P eq k as ⟨dst, op, ty, pos, aft, gu⟩ K = vcOp P eq k as ⟨dst, op, ty, pos, aft, none⟩ K := rfl
theorem goO_guard (op : Op) (j : Nat) (want : Bool) : goO P eq R ops lg k (⟨dst, op, ty, pos, aft, some (j, want)⟩ :: l) st k1 as = onGd P eq R ops lg k ⟨dst, op, ty, pos, aft, none⟩ want l st k1 as (gdst ops j) := by
  unfold onGd
  cases lg with
  | none =>
    rw [show goO P eq R ops none k (⟨dst, op, ty, pos, aft, some (j, want)⟩ :: l) st k1 as = vcOps P eq ops k (⟨dst, op, ty, pos, aft, some (j, want)⟩ :: l) as (fun as' => Qst P eq R st .normal k1 as') from rfl, vcOps]
    simp only
    cases gdst ops j with
    | none => rfl
    | some t =>
      simp only [onG]
      rw [goO_plain _ rfl]
      simp only [chkL, true_and, goO, vcU, advL, Option.map_none]
      rfl
  | some log =>
    rw [show goO P eq R ops (some log) k (⟨dst, op, ty, pos, aft, some (j, want)⟩ :: l) st k1 as = vcOpsD P eq ops k (⟨dst, op, ty, pos, aft, some (j, want)⟩ :: l) log as (fun as' => Qst P eq R st .normal k1 as') from rfl, vcOpsD]
    simp only
    cases gdst ops j with
    | none => rfl
    | some t =>
      simp only [onG]
      rw [goO_plain _ rfl]
      rfl

theorem no_cut {o : Oper} {K : List (Nat × Option Obj) → AV → Prop} (hns : ∀ t x h, o.op ≠ .slice t x none (some h) none) : vcCut P k as o K = False := by
  apply propext
  constructor
  · rintro ⟨t, x, h, n, len, e, e', sz, rows, kh, hv, ho, _⟩; exact hns t x h ho
  · exact False.elim
theorem eq_onP {o : Oper} (hc : calleeOf o.op = none) (hd : ∀ k s, opD P k s o.op = none) (hg : o.guard = none) (hns : ∀ t x h, o.op ≠ .slice t x none (some h) none := by intro t x h hh; cases hh) : goO P eq R ops lg k (o :: l) st k1 as = onP P eq R ops lg k o.op o.dst l st k1 as (pureOp P eq as o.op) := by
  rw [goO_plain o hg]
  simp only [vcOp, hc, hd, onMem, no_cut hns, or_false]
  cases pureOp P eq as o.op <;> rfl
theorem eq_onM {o : Oper} (hc : calleeOf o.op = none) (hp : pureOp P eq as o.op = none) (hg : o.guard = none) (hns : ∀ t x h, o.op ≠ .slice t x none (some h) none := by intro t x h hh; cases hh) : goO P eq R ops lg k (o :: l) st k1 as = onM P eq R ops lg k o.op o.dst l st k1 as (frCh as.ob (frOf as o.op)) (opD P k (as.chg (frCh as.ob (frOf as o.op))) o.op) := by
  rw [goO_plain o hg]
  simp only [vcOp, hc, hp, onPure, no_cut hns, or_false]
  cases opD P k (as.chg (frCh as.ob (frOf as o.op))) o.op <;> rfl

theorem goO_move (x : Operand) : goO P eq R ops lg k (⟨dst, .move x, ty, pos, aft, none⟩ :: l) st k1 as = onP P eq R ops lg k (.move x) dst l st k1 as (some (True, ev as x)) := eq_onP rfl (fun _ _ => rfl) rfl
theorem goO_assign (x : Operand) : goO P eq R ops lg k (⟨dst, .assign x, ty, pos, aft, none⟩ :: l) st k1 as = onP P eq R ops lg k (.assign x) dst l st k1 as (some (True, ev as x)) := eq_onP rfl (fun _ _ => rfl) rfl
def pPick (c x y : AV) : Option (Prop × AV) := match c with
  | .v (.bool b) => pickV b x y
  | _ => none
theorem goO_pick (c x y : Operand) : goO P eq R ops lg k (⟨dst, .pick c x y, ty, pos, aft, none⟩ :: l) st k1 as = onP P eq R ops lg k (.pick c x y) dst l st k1 as (pPick (ev as c) (ev as x) (ev as y)) := eq_onP rfl (fun _ _ => rfl) rfl
theorem goO_nilCheck (x : Operand) : goO P eq R ops lg k (⟨dst, .nilCheck x, ty, pos, aft, none⟩ :: l) st k1 as = onP P eq R ops lg k (.nilCheck x) dst l st k1 as (pNil (ev as x)) := eq_onP rfl (fun _ _ => rfl) rfl
theorem goO_binOp (op : BinOp) (t t' : TypeId) (x y : Operand) : goO P eq R ops lg k (⟨dst, .binOp op t x y t', ty, pos, aft, none⟩ :: l) st k1 as = onP P eq R ops lg k (.binOp op t x y t') dst l st k1 as (pBin P eq op t (ev as x) (ev as y)) := eq_onP rfl (fun _ _ => rfl) rfl
theorem goO_unOp (op : UnOp) (t : TypeId) (x : Operand) : goO P eq R ops lg k (⟨dst, .unOp op t x, ty, pos, aft, none⟩ :: l) st k1 as = onP P eq R ops lg k (.unOp op t x) dst l st k1 as (pUn op (ev as x)) := eq_onP rfl (fun _ _ => rfl) rfl
theorem goO_convert (s t : TypeId) (x : Operand) : goO P eq R ops lg k (⟨dst, .convert s t x, ty, pos, aft, none⟩ :: l) st k1 as = onP P eq R ops lg k (.convert s t x) dst l st k1 as (pConv P s t (ev as x)) := eq_onP rfl (fun _ _ => rfl) rfl
theorem goO_load (t : TypeId) (x : Operand) : goO P eq R ops lg k (⟨dst, .load t x, ty, pos, aft, none⟩ :: l) st k1 as = onP P eq R ops lg k (.load t x) dst l st k1 as (pLoad P as t (ev as x)) := eq_onP rfl (fun _ _ => rfl) rfl
theorem goO_fieldAddr (t : TypeId) (x : Operand) (j : Nat) : goO P eq R ops lg k (⟨dst, .fieldAddr t x j, ty, pos, aft, none⟩ :: l) st k1 as = onP P eq R ops lg k (.fieldAddr t x j) dst l st k1 as (pFieldAddr P t j (ev as x)) := eq_onP rfl (fun _ _ => rfl) rfl
theorem goO_field (t : TypeId) (x : Operand) (j : Nat) : goO P eq R ops lg k (⟨dst, .field t x j, ty, pos, aft, none⟩ :: l) st k1 as = onP P eq R ops lg k (.field t x j) dst l st k1 as (pField P t j (ev as x)) := eq_onP rfl (fun _ _ => rfl) rfl
theorem goO_indexAddr (t : TypeId) (x y : Operand) : goO P eq R ops lg k (⟨dst, .indexAddr t x y, ty, pos, aft, none⟩ :: l) st k1 as = onP P eq R ops lg k (.indexAddr t x y) dst l st k1 as (pIndexAddr P as t (ev as x) (ev as y)) := eq_onP rfl (fun _ _ => rfl) rfl
theorem goO_index (t : TypeId) (x y : Operand) : goO P eq R ops lg k (⟨dst, .index t x y, ty, pos, aft, none⟩ :: l) st k1 as = onP P eq R ops lg k (.index t x y) dst l st k1 as (pIndex P t (ev as x) (ev as y)) := eq_onP rfl (fun _ _ => rfl) rfl
theorem goO_extract (x : Operand) (j : Nat) : goO P eq R ops lg k (⟨dst, .extract x j, ty, pos, aft, none⟩ :: l) st k1 as = onP P eq R ops lg k (.extract x j) dst l st k1 as (pExtract j (ev as x)) := eq_onP rfl (fun _ _ => rfl) rfl
theorem goO_makeFunc (g : FuncId) (fst cap : Array Operand) : goO P eq R ops lg k (⟨dst, .makeFunc (.func g) fst cap, ty, pos, aft, none⟩ :: l) st k1 as = onP P eq R ops lg k (.makeFunc (.func g) fst cap) dst l st k1 as (pMake g (evs as fst.toList) (evs as cap.toList)) := eq_onP rfl (fun _ _ => rfl) rfl
theorem goO_len (x : Operand) (t : TypeId) : goO P eq R ops lg k (⟨dst, .call { callee := .builtin .len, args := #[x], argTypes := #[t] }, ty, pos, aft, none⟩ :: l) st k1 as = onP P eq R ops lg k (.call { callee := .builtin .len, args := #[x], argTypes := #[t] }) dst l st k1 as (pLen P t (ev as x)) := eq_onP rfl (fun _ _ => rfl) rfl
theorem goO_cap (x : Operand) (t : TypeId) : goO P eq R ops lg k (⟨dst, .call { callee := .builtin .cap, args := #[x], argTypes := #[t] }, ty, pos, aft, none⟩ :: l) st k1 as = onP P eq R ops lg k (.call { callee := .builtin .cap, args := #[x], argTypes := #[t] }) dst l st k1 as (pCap P t (ev as x)) := eq_onP rfl (fun _ _ => rfl) rfl
theorem goO_max (xs : Array Operand) (ts : Array TypeId) : goO P eq R ops lg k (⟨dst, .call { callee := .builtin .max, args := xs, argTypes := ts }, ty, pos, aft, none⟩ :: l) st k1 as = onP P eq R ops lg k (.call { callee := .builtin .max, args := xs, argTypes := ts }) dst l st k1 as (pMM .max (evs as xs.toList)) := eq_onP rfl (fun _ _ => rfl) rfl
theorem goO_min (xs : Array Operand) (ts : Array TypeId) : goO P eq R ops lg k (⟨dst, .call { callee := .builtin .min, args := xs, argTypes := ts }, ty, pos, aft, none⟩ :: l) st k1 as = onP P eq R ops lg k (.call { callee := .builtin .min, args := xs, argTypes := ts }) dst l st k1 as (pMM .min (evs as xs.toList)) := eq_onP rfl (fun _ _ => rfl) rfl

def dBox (k : Nat) (t : TypeId) (x : Option (Prop × List AV)) : Option (Prop × AV × List (Nat × Option Obj)) := match x with
  | some (p, cs) => some (p, .ptr k 0, [(k, some (.box t cs))])
  | none => none
def dAlloc (k : Nat) (t : TypeId) (x : Option (List Value)) : Option (Prop × AV × List (Nat × Option Obj)) := match x with
  | some zs => some (zs.all (·.oneCell') = true, .ptr k 0, [(k, some (.box t (zs.map .v)))])
  | none => none
theorem goO_box (t : TypeId) (x : Operand) : goO P eq R ops lg k (⟨dst, .box t x, ty, pos, aft, none⟩ :: l) st k1 as = onM P eq R ops lg k (.box t x) dst l st k1 as [] (dBox k t (cellsOf (ev as x))) := eq_onM rfl rfl rfl
theorem goO_alloc (t : TypeId) : goO P eq R ops lg k (⟨dst, .alloc t, ty, pos, aft, none⟩ :: l) st k1 as = onM P eq R ops lg k (.alloc t) dst l st k1 as [] (dAlloc k t (zer P t)) := eq_onM rfl rfl rfl
theorem goO_store (t : TypeId) (x y : Operand) : goO P eq R ops lg k (⟨dst, .store t x y, ty, pos, aft, none⟩ :: l) st k1 as = onM P eq R ops lg k (.store t x y) dst l st k1 as (frCh as.ob (frOf as (.store t x y))) (opD P k (as.chg (frCh as.ob (frOf as (.store t x y)))) (.store t x y)) := eq_onM rfl rfl rfl
theorem goO_makeSlice (t : TypeId) (x y : Operand) : goO P eq R ops lg k (⟨dst, .makeSlice t x y, ty, pos, aft, none⟩ :: l) st k1 as = onM P eq R ops lg k (.makeSlice t x y) dst l st k1 as [] (opD P k as (.makeSlice t x y)) := eq_onM rfl rfl rfl
theorem goO_makeMap (t : TypeId) (x : Option Operand) : goO P eq R ops lg k (⟨dst, .makeMap t x, ty, pos, aft, none⟩ :: l) st k1 as = onM P eq R ops lg k (.makeMap t x) dst l st k1 as [] (opD P k as (.makeMap t x)) := eq_onM rfl rfl rfl
theorem goO_mapUpdate (t : TypeId) (x y z : Operand) : goO P eq R ops lg k (⟨dst, .mapUpdate t x y z, ty, pos, aft, none⟩ :: l) st k1 as = onM P eq R ops lg k (.mapUpdate t x y z) dst l st k1 as (frCh as.ob (frOf as (.mapUpdate t x y z))) (opD P k (as.chg (frCh as.ob (frOf as (.mapUpdate t x y z)))) (.mapUpdate t x y z)) := eq_onM rfl rfl rfl
theorem goO_lookup (t : TypeId) (x y : Operand) (ok : Bool) : goO P eq R ops lg k (⟨dst, .lookup t x y ok, ty, pos, aft, none⟩ :: l) st k1 as = onM P eq R ops lg k (.lookup t x y ok) dst l st k1 as [] (opD P k as (.lookup t x y ok)) := eq_onM rfl rfl rfl
theorem goO_buildSlice (t : TypeId) (len : Nat) (parts : Array (Nat × Operand)) : goO P eq R ops lg k (⟨dst, .buildSlice t len parts, ty, pos, aft, none⟩ :: l) st k1 as = onM P eq R ops lg k (.buildSlice t len parts) dst l st k1 as (frCh as.ob (frOf as (.buildSlice t len parts))) (opD P k (as.chg (frCh as.ob (frOf as (.buildSlice t len parts)))) (.buildSlice t len parts)) := eq_onM rfl rfl rfl
theorem goO_build (t : TypeId) (parts : Array (Nat × Operand)) : goO P eq R ops lg k (⟨dst, .build t parts, ty, pos, aft, none⟩ :: l) st k1 as = onM P eq R ops lg k (.build t parts) dst l st k1 as [] (opD P k as (.build t parts)) := eq_onM rfl rfl rfl
theorem goO_append (xs : Array Operand) (ts : Array TypeId) : goO P eq R ops lg k (⟨dst, .call { callee := .builtin .append, args := xs, argTypes := ts }, ty, pos, aft, none⟩ :: l) st k1 as = onM P eq R ops lg k (.call { callee := .builtin .append, args := xs, argTypes := ts }) dst l st k1 as [] (opD P k as (.call { callee := .builtin .append, args := xs, argTypes := ts })) := eq_onM rfl rfl rfl

/-- a part of a slice: of data; or of an object, that is frozen then, or cut short -/
def onS (P : Program) (eq : TypeId → Option (List Value)) (R : AS → Prop) (ops : Array Oper) (lg : Lg) (k : Nat) (t : TypeId) (x : Operand) (lo hi : Option Operand) (dst : Option Tmp) (l : List Oper) (st : List Wk) (k1 : Nat) (as : AS) (v : AV) : Prop := match v with
  | .ob n _ => onM P eq R ops lg k (.slice t x lo hi none) dst l st k1 as (frCh as.ob [n]) (opD P k (as.chg (frCh as.ob [n])) (.slice t x lo hi none)) ∨
      vcCut P k as ⟨dst, .slice t x lo hi none, 0, "", #[], none⟩ fun ch r => chkL ops lg as (.slice t x lo hi none) ch ∧ goO P eq R ops (advL lg as (.slice t x lo hi none) ch) (k + 8) l st k1 ((as.chg ch).put dst r)
  | v => onP P eq R ops lg k (.slice t x lo hi none) dst l st k1 as (pSlice P t v (lo.map (ev as)) (hi.map (ev as)) none)
theorem onS_sl (t : TypeId) (x : Operand) (lo hi : Option Operand) (sz : Nat) (rows : List (List DV)) : onS P eq R ops lg k t x lo hi dst l st k1 as (.sl sz rows) = onP P eq R ops lg k (.slice t x lo hi none) dst l st k1 as (pSlice P t (.sl sz rows) (lo.map (ev as)) (hi.map (ev as)) none) := rfl
theorem onS_v (t : TypeId) (x : Operand) (lo hi : Option Operand) (v : Value) : onS P eq R ops lg k t x lo hi dst l st k1 as (.v v) = onP P eq R ops lg k (.slice t x lo hi none) dst l st k1 as (pSlice P t (.v v) (lo.map (ev as)) (hi.map (ev as)) none) := rfl
theorem onS_frz {t : TypeId} {x : Operand} {lo hi : Option Operand} {n len : Nat} (h : onM P eq R ops lg k (.slice t x lo hi none) dst l st k1 as (frCh as.ob [n]) (opD P k (as.chg (frCh as.ob [n])) (.slice t x lo hi none))) : onS P eq R ops lg k t x lo hi dst l st k1 as (.ob n len) := .inl h
theorem onS_cut {t : TypeId} {x h : Operand} {n len e e' sz : Nat} {rows : List (List DV)} {kh : IntKind} {hv : Int} (hx : ev as x = .ob n len) (hob : as.ob n = some (.row e sz rows false)) (hh : ev as h = .v (.int kh hv)) (h0 : 0 ≤ hv) (h1 : hv ≤ rows.length) (ht : elt P t = some (e', sz))
    (hK : chkL ops lg as (.slice t x none (some h) none) [(n, none), (k, some (.row e sz (rows.take hv.toNat) false))] ∧ goO P eq R ops (advL lg as (.slice t x none (some h) none) [(n, none), (k, some (.row e sz (rows.take hv.toNat) false))]) (k + 8) l st k1 ((as.chg [(n, none), (k, some (.row e sz (rows.take hv.toNat) false))]).put dst (.ob k hv.toNat))) :
    onS P eq R ops lg k t x none (some h) dst l st k1 as (.ob n len) :=
  .inr ⟨t, x, h, n, len, e, e', sz, rows, kh, hv, rfl, hx, hob, hh, h0, h1, ht, List.mem_flatMap.2 ⟨x, by simp [Op.operands], by rw [hx]; simp [idsOf, idA, id1]⟩, hK⟩
theorem goO_slice (t : TypeId) (x : Operand) (lo hi : Option Operand) : goO P eq R ops lg k (⟨dst, .slice t x lo hi none, ty, pos, aft, none⟩ :: l) st k1 as = onS P eq R ops lg k t x lo hi dst l st k1 as (ev as x) := by
  rw [goO_plain _ rfl]
  have hev : ∀ c, ev (as.chg c) x = ev as x := fun c => by cases x <;> rfl
  have hcut : ∀ K, (∀ n len, ev as x ≠ .ob n len) → vcCut P k as ⟨dst, .slice t x lo hi none, ty, pos, aft, none⟩ K = False := fun K hn => by
    apply propext
    constructor
    · rintro ⟨t', x', h', n, len, e, e', sz, rows, kh, hv, ho, hx, _⟩
      cases ho
      exact hn n len hx
    · exact False.elim
  simp only [vcOp, calleeOf, pureOp]
  cases hv : ev as x with
  | ob n len =>
    have h2 : frOf as (.slice t x lo hi none) = [n] := by simp [frOf, hv]
    simp only [onS, h2, pSlice, onPure]
    cases opD P k (as.chg (frCh as.ob [n])) (.slice t x lo hi none) <;> rfl
  | _ =>
    simp only [opD, hev, hv, onS, onMem]
    rw [hcut _ (fun n len => by rw [hv]; exact fun h => by cases h), or_false]
    cases pSlice P t _ (lo.map (ev as)) (hi.map (ev as)) none <;> rfl

theorem goO_call (x : Operand) (xs : Array Operand) (ts : Array TypeId) : goO P eq R ops lg k (⟨dst, .call { callee := .value x, args := xs, argTypes := ts }, ty, pos, aft, none⟩ :: l) st k1 as =
    onF P eq R ops lg k (.call { callee := .value x, args := xs, argTypes := ts }) dst l st k1 as (evs as xs.toList) (ev as x) := by
  rw [goO_plain _ rfl]
  simp only [vcOp, calleeOf]
  generalize ev as x = v
  cases v <;> rfl

/-- What is asked of a call's contract where it is used. -/
def callOk (k : Nat) (as : AS) (fp fr ln τ : List Nat) (args args' : List AV) (pre post : List Obj) (r : AV) : Prop :=
  ((fr ++ ln ++ τ).all fun n => fp.contains n) = true ∧ nodup τ = true ∧ (τ.all fun q => decide (q < k)) = true ∧ (ln.all fun n => !τ.contains n && (app as.ob (frCh as.ob fr) n).isSome) = true ∧
    eqrL (eqr2 (rt τ)) (args.map (low (app as.ob (frCh as.ob fr)) ln)) args' ∧ preOk (rt τ) (app as.ob (frCh as.ob fr)) τ pre ∧ (ln = [] ∨ (only r ∧ ∀ o ∈ post, onlyO o))

/-- A call by its contract. -/
theorem onF_call {o : Op} {args args' cap : List AV} {g : FuncId} {pre post : List Obj} {r : AV} (hs : SpecG P g args' pre r post) (fr ln τ : List Nat)
    (hok : callOk k as (fpt as o) fr ln τ (args ++ cap) args' pre post r)
    (h : chkL ops lg as o (frCh as.ob fr ++ postCh (rb τ k) k τ post) ∧ goO P eq R ops (advL lg as o (frCh as.ob fr ++ postCh (rb τ k) k τ post)) (k + 8) l st k1 ((as.chg (frCh as.ob fr ++ postCh (rb τ k) k τ post)).put dst (ren (rb τ k) r))) :
    onF P eq R ops lg k o dst l st k1 as args (.fn g cap) := by
  obtain ⟨h1, h2, h3, h4, h5, h6, h7⟩ := hok
  refine ⟨fr, ln, τ, args', pre, r, post, fun n hn => (by cases hn), fun n hn => ?_, h2, fun q hq => by simpa using List.all_eq_true.1 h3 q hq, fun n hn => ?_, h5, h6, h7, hs, .inl h⟩
  · have : n ∈ fr ++ ln ++ τ := by simp; rcases hn with h | h | h <;> simp [h]
    simpa using List.all_eq_true.1 h1 n this
  · have := List.all_eq_true.1 h4 n hn
    simp only [Bool.and_eq_true, Bool.not_eq_true', List.contains_eq_mem, decide_eq_false_iff_not] at this
    exact ⟨this.1, Option.isSome_iff_exists.1 this.2⟩

/-- A call by its contract that leaves what was handed over as it was. -/
theorem onF_same {o : Op} {args args' cap : List AV} {g : FuncId} {pre post : List Obj} {r : AV} (hs : SpecG P g args' pre r post) (fr ln τ : List Nat)
    (hok : callOk k as (fpt as o) fr ln τ (args ++ cap) args' pre post r ∧ sameL (app as.ob (frCh as.ob fr)) (rb τ k) τ post)
    (h : chkL ops lg as o (frCh as.ob fr ++ postCh (rb τ k) k [] (post.drop τ.length)) ∧ goO P eq R ops (advL lg as o (frCh as.ob fr ++ postCh (rb τ k) k [] (post.drop τ.length))) (k + 8) l st k1 ((as.chg (frCh as.ob fr ++ postCh (rb τ k) k [] (post.drop τ.length))).put dst (ren (rb τ k) r))) :
    onF P eq R ops lg k o dst l st k1 as args (.fn g cap) := by
  obtain ⟨⟨h1, h2, h3, h4, h5, h6, h7⟩, hsm⟩ := hok
  refine ⟨fr, ln, τ, args', pre, r, post, fun n hn => (by cases hn), fun n hn => ?_, h2, fun q hq => by simpa using List.all_eq_true.1 h3 q hq, fun n hn => ?_, h5, h6, h7, hs, .inr ⟨hsm, h⟩⟩
  · have : n ∈ fr ++ ln ++ τ := by simp; rcases hn with h | h | h <;> simp [h]
    simpa using List.all_eq_true.1 h1 n this
  · have := List.all_eq_true.1 h4 n hn
    simp only [Bool.and_eq_true, Bool.not_eq_true', List.contains_eq_mem, decide_eq_false_iff_not] at this
    exact ⟨this.1, Option.isSome_iff_exists.1 this.2⟩

/-- A call whose third argument is a new slice that is not used again. -/
theorem onF_call3 {o : Op} {a b : AV} {n len : Nat} {args' cap : List AV} {g : FuncId} {r : AV} (hs : SpecG P g args' [] r [])
    (hok : callOk k as (fpt as o) [n] [] [] ([a, b, .ob n len] ++ cap) args' [] [] r)
    (h : chkL ops lg as o (frCh as.ob [n] ++ postCh (rb [] k) k [] []) ∧ goO P eq R ops (advL lg as o (frCh as.ob [n] ++ postCh (rb [] k) k [] [])) (k + 8) l st k1 ((as.chg (frCh as.ob [n] ++ postCh (rb [] k) k [] [])).put dst (ren (rb [] k) r))) :
    onF P eq R ops lg k o dst l st k1 as [a, b, .ob n len] (.fn g cap) := onF_call hs [n] [] [] hok h

/-- A call of a function value by its contract: its state is the first of those handed over. -/
theorem onF_cb {o : Op} {args args' : List AV} {n0 : Nat} {pre post : List Obj} {r : AV} (hs : CbG P args' pre r post) (fr ln τ : List Nat)
    (hok : callOk k as (fpt as o) fr ln (n0 :: τ) args args' pre post r)
    (h : chkL ops lg as o (frCh as.ob fr ++ postCh (rb (n0 :: τ) k) k (n0 :: τ) post) ∧ goO P eq R ops (advL lg as o (frCh as.ob fr ++ postCh (rb (n0 :: τ) k) k (n0 :: τ) post)) (k + 8) l st k1 ((as.chg (frCh as.ob fr ++ postCh (rb (n0 :: τ) k) k (n0 :: τ) post)).put dst (ren (rb (n0 :: τ) k) r))) :
    onF P eq R ops lg k o dst l st k1 as args (.yl n0) := by
  obtain ⟨h1, h2, h3, h4, h5, h6, h7⟩ := hok
  refine ⟨fr, ln, n0 :: τ, args', pre, r, post, fun n hn => (by cases hn; rfl), fun n hn => ?_, h2, fun q hq => by simpa using List.all_eq_true.1 h3 q hq, fun n hn => ?_, h5, h6, h7, hs, .inl h⟩
  · have : n ∈ fr ++ ln ++ (n0 :: τ) := by
      simp only [List.mem_append]
      rcases hn with h | h | h
      · exact .inl (.inl h)
      · exact .inl (.inr h)
      · exact .inr h
    simpa using List.all_eq_true.1 h1 n this
  · have := List.all_eq_true.1 h4 n hn
    simp only [Bool.and_eq_true, Bool.not_eq_true', List.contains_eq_mem, decide_eq_false_iff_not] at this
    exact ⟨this.1, Option.isSome_iff_exists.1 this.2⟩

/-- A call of a function whose arguments are data, of which nothing is frozen. -/
theorem onF_data {o : Op} {args args' cap : List AV} {g : FuncId} {r : AV} (hs : SpecF P g args' r []) (hle : eqrL (eqr2 (rt [])) ((args ++ cap).map (low as.ob [])) args')
    (h : chkL ops lg as o [] ∧ goO P eq R ops (advL lg as o []) (k + 8) l st k1 (as.put dst (ren (rb [] k) r))) :
    onF P eq R ops lg k o dst l st k1 as args (.fn g cap) :=
  onF_call hs [] [] [] ⟨rfl, rfl, rfl, rfl, hle, trivial, .inl rfl⟩ h

theorem spec_go {f : FuncId} {fn : Func} {c : Code} {args : List AV} {pre post : List Obj} {r : AV} {N : Nat} {rs : List ResultVar} (hN : fn.ntmps = N) (hrs : fn.results.toList = rs) (hf : P.funcs[f]? = some fn) (hb : fn.body = some c) (hname : (fn.name == "runtime.NumGoroutine") = false) (hok : drawsOk c = true)
    (hargs : args.length ≤ N) (hp8 : pre.length ≤ 8) (hp : pre.length ≤ post.length) (hol : post.length ≤ pre.length + 8) (h : ∀ R : AS → Prop, (∀ as, Fin P rs pre.length r post as → R as) → goC P eq R c [] 8 (entry args pre N)) : SpecG P f args pre r post := by
  refine spec_of hN hrs hf hb hname hok hargs hp8 hp hol (eq := eq) ?_
  exact h (Fin P rs pre.length r post) fun _ h => h

/-- The end of a function that makes no object: what is asked, for the simplifier. -/
def fin0 (P : Program) (rs : List ResultVar) (r : AV) (as : AS) : Prop := match resAll P as rs with
  | some (p, vs) => p ∧ eqr (rn 0 []) (resV vs) r
  | none => False
theorem fin_of0 {rs : List ResultVar} {r : AV} (h : fin0 P rs r as) : Fin P rs ([] : List Obj).length r [] as := by
  unfold fin0 at h
  unfold Fin
  cases hres : resAll P as rs with
  | none => rw [hres] at h; exact h.elim
  | some q =>
    obtain ⟨p, vs⟩ := q
    rw [hres] at h
    exact ⟨h.1, [], Nat.le_refl _, h.2, Nat.zero_le _, rfl, trivial, trivial⟩
/-- The end of a function with objects: σ: where the new ones are. -/
def fin1 (P : Program) (rs : List ResultVar) (n : Nat) (r : AV) (post : List Obj) (σ : List (Option Nat)) (as : AS) : Prop := match resAll P as rs with
  | some (p, vs) => p ∧ n + σ.length ≤ post.length ∧ eqr (rn n σ) (resV vs) r ∧ Ent n as σ ⟨[], idx 0 post⟩
  | none => False
theorem fin_of1 {rs : List ResultVar} {n : Nat} {r : AV} {post : List Obj} (σ : List (Option Nat)) (h : fin1 P rs n r post σ as) : Fin P rs n r post as := by
  unfold fin1 at h
  unfold Fin
  cases hres : resAll P as rs with
  | none => rw [hres] at h; exact h.elim
  | some q =>
    obtain ⟨p, vs⟩ := q
    rw [hres] at h
    exact ⟨h.1, σ, h.2⟩

end
end Go.Proofs.Ytfaekiaegebmbaa.Ab
