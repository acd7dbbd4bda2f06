/- Regions and code: what must be shown, and that it is enough. Regions whose order is drawn: every order comes to what the text's order comes to. Regions whose order is drawn: the orders. Code: what must be shown, and that it is enough. Code: what must be shown, and that it is enough; loops; a function's contract. -/
import Derived.Test.YtciegkpjenjaeaaDoorZAbH
import Derived.Maps.Range
import Derived.Orders
namespace Go.Proofs.YtciegkpjenjaeaaDoor.Ab
open Go Go.RowKit
set_option linter.unusedSimpArgs false
set_option linter.unusedVariables false

/-- What was handed over is as it was. -/
def sameL (ob : Nat → Option Obj) (ρ : Nat → Nat) : List Nat → List Obj → Prop
  | [], _ => True
  | q :: τ, o :: l => ob q = some (renO ρ o) ∧ sameL ob ρ τ l
  | _ :: _, [] => False
theorem sameL_app {ρ : Nat → Nat} {k : Nat} : ∀ {τ : List Nat} {post : List Obj} {ob : Nat → Option Obj}, sameL ob ρ τ post → app ob (postCh ρ k τ post) = app ob (postCh ρ k [] (post.drop τ.length))
  | [], post, ob, _ => rfl
  | q :: τ, o :: l, ob, h => by
    have e : upd ob q (some (renO ρ o)) = ob := by
      funext n
      unfold upd
      split
      · rename_i hn; rw [hn, h.1]
      · rfl
    show app (upd ob q (some (renO ρ o))) (postCh ρ k τ l) = _
    rw [e]
    exact sameL_app h.2
  | _ :: _, [], _, h => h.elim
theorem sameL_keys {ρ : Nat → Nat} {k n : Nat} : ∀ {τ : List Nat} {post : List Obj} {ob : Nat → Option Obj}, sameL ob ρ τ post → n ∉ τ → (n ∈ (postCh ρ k τ post).map (·.1) ↔ n ∈ (postCh ρ k [] (post.drop τ.length)).map (·.1))
  | [], post, ob, _, _ => Iff.rfl
  | q :: τ, o :: l, ob, h, hn => by
    simp only [List.mem_cons, not_or] at hn
    show n ∈ q :: (postCh ρ k τ l).map (·.1) ↔ _
    rw [List.mem_cons, sameL_keys h.2 hn.2]
    constructor
    · rintro (h1 | h1)
      · exact absurd h1 hn.1
      · exact h1
    · exact .inr
  | _ :: _, [], _, h, _ => h.elim

/-- A call of a function by its contract. fr: what is frozen, ln: what is lent, τ: what is handed over to be written. -/
def vcCall (C : List AV → List Obj → AV → List Obj → Prop) (hd : Option Nat) (k : Nat) (as : AS) (fp : List Nat) (args : List AV) (K : List (Nat × Option Obj) → AV → Prop) : Prop :=
  ∃ (fr ln τ : List Nat) (args' : List AV) (pre : List Obj) (r : AV) (post : List Obj), (∀ n, hd = some n → τ[0]? = some n) ∧ (∀ n, n ∈ fr ∨ n ∈ ln ∨ n ∈ τ → n ∈ fp) ∧ nodup τ = true ∧ (∀ q ∈ τ, q < k) ∧ (∀ n ∈ ln, n ∉ τ ∧ ∃ o, app as.ob (frCh as.ob fr) n = some o) ∧
    eqrL (eqr2 (rt τ)) (args.map (low (app as.ob (frCh as.ob fr)) ln)) args' ∧ preOk (rt τ) (app as.ob (frCh as.ob fr)) τ pre ∧ (ln = [] ∨ (only r ∧ ∀ o ∈ post, onlyO o ∨ shrO pre o)) ∧ C args' pre r post ∧
    (K (frCh as.ob fr ++ postCh (rb τ k) k τ post) (ren (rb τ k) r) ∨ sameL (app as.ob (frCh as.ob fr)) (rb τ k) τ post ∧ K (frCh as.ob fr ++ postCh (rb τ k) k [] (post.drop τ.length)) (ren (rb τ k) r))

theorem thin_ok {P : Program} {eq : TypeId → Option (List Value)} {k : Nat} {o : Oper} {as : AS} {r : AV} {fr τ : List Nat} {post : List Obj} (h : Step0 P eq k o as r (frCh as.ob fr ++ postCh (rb τ k) k τ post)) (hs : sameL (app as.ob (frCh as.ob fr)) (rb τ k) τ post) (hτ : ∀ n ∈ τ, n ∈ fpt as o.op) :
    Step P eq k o as r (frCh as.ob fr ++ postCh (rb τ k) k [] (post.drop τ.length)) := by
  refine .thin _ h (fun n => ?_) (fun n hn => ?_)
  · rw [app_append, app_append, sameL_app hs]
  · rw [List.map_append, List.map_append, List.mem_append, List.mem_append, sameL_keys hs (fun h => hn (hτ n h))]

def onPure (x : Option (Prop × AV)) (K : AV → Prop) (E : Prop) : Prop := match x with
  | some (p, r) => p ∧ (p → K r)
  | none => E
def onMem (x : Option (Prop × AV × List (Nat × Option Obj))) (K : AV → List (Nat × Option Obj) → Prop) (E : Prop) : Prop := match x with
  | some (p, r, set) => p ∧ (p → K r set)
  | none => E
def onFn (x : AV) (K : FuncId → List AV → Prop) (C : Nat → Prop) : Prop := match x with
  | .fn g cap => K g cap
  | .yl n => C n
  | _ => False
def onBool (x : AV) (K : Bool → Prop) (E : Prop) : Prop := match x with
  | .v (.bool b) => K b
  | .v (.tuple _) => E
  | _ => False
def calleeOf : Op → Option (Operand × List Operand)
  | .call c => match c.callee with
    | .value x => some (x, c.args.toList)
    | _ => none
  | _ => none
theorem calleeOf_some {o : Op} {x : Operand} {l : List Operand} (h : calleeOf o = some (x, l)) : ∃ c, o = .call c ∧ c.callee = .value x ∧ c.args.toList = l := by
  unfold calleeOf at h
  split at h
  · rename_i c
    split at h
    · rename_i y hy
      cases h
      exact ⟨c, rfl, hy, rfl⟩
    · cases h
  · cases h

/-- An owned slice cut short: the prover's choice (else it is frozen). -/
def vcCut (P : Program) (k : Nat) (as : AS) (o : Oper) (K : List (Nat × Option Obj) → AV → Prop) : Prop := ∃ (t : TypeId) (x h : Operand) (n len e e' sz : Nat) (rows : List (List DV)) (kh : IntKind) (hv : Int),
  o.op = .slice t x none (some h) none ∧ ev as x = .ob n len ∧ as.ob n = some (.row e sz rows false) ∧ ev as h = .v (.int kh hv) ∧ 0 ≤ hv ∧ hv ≤ rows.length ∧ elt P t = some (e', sz) ∧ n ∈ fpt as o.op ∧
    K [(n, none), (k, some (.row e sz (rows.take hv.toNat) false))] (.ob k hv.toNat)

/-- A load out of an opaque object: what it says of its cell. -/
def vcLdo (P : Program) (as : AS) (o : Oper) (K : List (Nat × Option Obj) → AV → Prop) : Prop := ∃ (t : TypeId) (x : Operand) (b off : Nat) (val : Value) (Φ : Value → (Nat → Prop) → (Nat → Prop) → World → Prop),
  o.op = .load t x ∧ ev as x = .kp b off ∧ tyc P t = some (false, 1) ∧ as.ob 0 = some (.opq Φ) ∧ (∀ v I F w, Φ v I F w → w.cell? ⟨b, off, none⟩ = some val) ∧ K [] (.v val)
/-- What a range over a set has come to. -/
def vcEnt (as : AS) (o : Oper) (K : List (Nat × Option Obj) → AV → Prop) : Prop := ∃ (it : Operand) (n : Nat) (p : Int → Prop) (left : List Int) (x : Int),
  o.op = .entry it ∧ ev as it = .ptr n 0 ∧ as.ob n = some (.opq (MIt p left (some x))) ∧ K [] (.tup [.v (.int .i64 x), .v (.bool true)])
/-- May an operation be shown by the model itself? -/
def semOp : Op → Bool
  | .load .. => false
  | .slice _ _ _ _ none => false
  | .slice _ _ (some _) _ _ => false
  | .entry .. => false
  | .next .. => false
  | .defer .. => false
  | _ => true
/-- A step that is shown by the model itself: of an operation that the machine does not know. -/
def vcSem (P : Program) (eq : TypeId → Option (List Value)) (k : Nat) (as : AS) (op : Op) (K : List (Nat × Option Obj) → AV → Prop) : Prop :=
  semOp op = true ∧ pureOp P eq as op = none ∧ opD P k (as.chg (frCh as.ob (frOf as op))) op = none ∧ ∃ r ch, SemStep P k op as r ch ∧ K ch r
/-- A step of a range over a set: whichever is left, or the end. -/
def vcNx (as : AS) (o : Oper) (K : List (Nat × Option Obj) → AV → Prop) : Prop := ∃ (it : Operand) (n : Nat) (p : Int → Prop) (left : List Int) (last : Option Int),
  o.op = .next it false ∧ ev as it = .ptr n 0 ∧ as.ob n = some (.opq (MIt p left last)) ∧ (left = [] → K [] (.tup [.v (.bool false)])) ∧
  ∀ x ∈ left, K [(n, some (.opq (MIt p (left.erase x) (some x))))] (.tup [.v (.bool true), .v (.int .i64 x), .v (.bool true)])
theorem MIt.stable {p : Int → Prop} {left : List Int} {last : Option Int} {v : Value} {I F I' : Nat → Prop} {w w' : World} (h : MIt p left last v I F w) (hs : ∀ b, I b → I' b) (hk : ∀ b, F b ∨ I b → w'.heap[b]? = w.heap[b]?) : MIt p left last v I' F w' := by
  obtain ⟨r, g, es, clock, since, seen, c0, h1, h2, h3, h4, h5, h6, h7⟩ := h
  exact ⟨r, g, es, clock, since, seen, c0, h1, h2, hs g h3, (hk g (.inr h3)).trans h4, h5, (hk r (.inl ((h2 r).2 rfl))).trans h6, h7⟩

def vcOp (P : Program) (eq : TypeId → Option (List Value)) (k : Nat) (as : AS) (o : Oper) (K : List (Nat × Option Obj) → AV → Prop) : Prop := match calleeOf o.op with
  | some (x, l) => onFn (ev as x) (fun g cap => vcCall (SpecG P g) none k as (fpt as o.op) (evs as l ++ cap) K) (fun n => vcCall (CbG P) (some n) k as (fpt as o.op) (evs as l) K)
  | none => onPure (pureOp P eq as o.op) (K []) (onMem (opD P k (as.chg (frCh as.ob (frOf as o.op))) o.op) (fun r set => K (frCh as.ob (frOf as o.op) ++ set) r) False) ∨ vcCut P k as o K ∨ vcLdo P as o K ∨ vcEnt as o K ∨ vcSem P eq k as o.op K

theorem vcOp_step {P : Program} {eq : TypeId → Option (List Value)} {k : Nat} {as : AS} {o : Oper} {K : List (Nat × Option Obj) → AV → Prop} (h : vcOp P eq k as o K) : ∃ r ch, Step P eq k o as r ch ∧ K ch r := by
  unfold vcOp at h
  split at h
  · rename_i x l hc
    obtain ⟨c, ho, hcc, rfl⟩ := calleeOf_some hc
    unfold onFn at h
    split at h
    · rename_i g cap hg
      obtain ⟨fr, ln, τ, args', pre, r, post, _, h1, h2, h3, h4, h5, h6, h7, hs, hK⟩ := h
      have hst : Step0 P eq k o as _ _ := .call c x g cap fr ln τ args' pre r post ho hcc hg h1 h2 h3 h4 h5 h6 h7 hs
      rcases hK with hK | ⟨hsm, hK⟩
      · exact ⟨_, _, .base hst, hK⟩
      · exact ⟨_, _, thin_ok hst hsm (fun n hn => h1 n (.inr (.inr hn))), hK⟩
    · rename_i n hg
      obtain ⟨fr, ln, τ, args', pre, r, post, h0, h1, h2, h3, h4, h5, h6, h7, hs, hK⟩ := h
      have hst : Step0 P eq k o as _ _ := .cb c x n fr ln τ args' pre r post ho hcc hg (h0 n rfl) h1 h2 h3 h4 h5 h6 h7 hs
      rcases hK with hK | ⟨hsm, hK⟩
      · exact ⟨_, _, .base hst, hK⟩
      · exact ⟨_, _, thin_ok hst hsm (fun n hn => h1 n (.inr (.inr hn))), hK⟩
    · exact h.elim
  · rcases h with h | ⟨t, x, y, n, len, e, e', sz, rows, kh, hv, ho, hx, hob, hh, h0, h1, ht, hfp, hK⟩ | ⟨t, x, b, off, val, Φ, ho, hx, ht, hob, hΦ, hK⟩ | ⟨it, n, p, left, x, ho, hx, hob, hK⟩ | ⟨hs, _, _, r, ch, hS, hK⟩
    case inr.inr.inr.inr => exact ⟨_, _, .base <| .sem r ch (fun c hc => by rw [hc] at hs; simp [semOp] at hs) hS, hK⟩
    case inr.inr.inl => exact ⟨_, _, .base <| .ldo t x b off val Φ ho hx ht hob hΦ, hK⟩
    case inr.inr.inr.inl => exact ⟨_, _, .base <| .ent it n p left x ho hx hob, hK⟩
    case inr.inl => exact ⟨_, _, .base <| .cut t x y n len e e' sz rows kh hv ho hx hob hh h0 h1 ht hfp, hK⟩
    unfold onPure at h
    split at h
    · rename_i p r hp
      exact ⟨r, [], .base <| .pure p r hp h.1, h.2 h.1⟩
    · unfold onMem at h
      split at h
      · rename_i p r set hp
        exact ⟨r, _, .base <| .mem p r set hp h.1, h.2 h.1⟩
      · exact h.elim

/-- The temporary on which an operation's guard looks. -/
def gdst (ops : Array Oper) (j : Nat) : Option Tmp := (ops[j]?).bind (·.dst)

def AS.know (as : AS) (t : Tmp) (b : Bool) : AS := { as with tm := upd as.tm t (.v (.bool b)) }

def vcOps (P : Program) (eq : TypeId → Option (List Value)) (ops : Array Oper) : Nat → List Oper → AS → (AS → Prop) → Prop
  | _, [], as, K => K as
  | k, o :: l, as, K => match o.guard with
    | none => vcOp P eq k as o (fun ch r => vcOps P eq ops (k + 8) l ((as.chg ch).put o.dst r) K) ∨ vcNx as o fun ch r => vcOps P eq ops (k + 8) l ((as.chg ch).put o.dst r) K
    | some (j, want) => match gdst ops j with
      | none => False
      | some t => onBool (as.tm t) (fun b => (b = want → vcOp P eq k (as.know t want) o (fun ch r => vcOps P eq ops (k + 8) l (((as.know t want).chg ch).put o.dst r) K) ∨ vcNx (as.know t want) o fun ch r => vcOps P eq ops (k + 8) l (((as.know t want).chg ch).put o.dst r) K) ∧ (b = !want → vcOps P eq ops (k + 8) l ((as.know t !want).put o.dst (.v undef)) K))
          (vcOps P eq ops (k + 8) l (as.put o.dst (.v undef)) K)

section
variable {P : Program} {eq : TypeId → Option (List Value)} {ro : Option Nat} {n s : Nat}

/-- What stands in the heap beside the objects: the blocks that the marks name (made from s on), and the record of the round that runs. -/
structure Aux (s : Nat) (ro : Option Nat) (w : World) (m : Mem) (ob : Nat → Option Obj) (ds : List Deferred) : Prop where
  marks : ∀ d ∈ ds, ∃ r, d = { target := .collected r, args := #[] } ∧ s ≤ r ∧ w.heap[r]? = some (.deferred (some [])) ∧ ¬ own m ob r ∧ ¬ m.I r
  nd : ds.Nodup
  sz : s ≤ w.heap.size
  rnd : ∀ l, ro = some l → ∃ r, w.heap[l]? = some (.loop r) ∧ ¬ own m ob l ∧ ¬ m.I l
theorem lt_of_get {w : World} {b : Nat} {o : _root_.Go.Obj} (h : w.heap[b]? = some o) : b < w.heap.size := by
  rcases Nat.lt_or_ge b w.heap.size with h1 | h1
  · exact h1
  · rw [Array.getElem?_eq_none h1] at h; cases h
theorem Aux.ext {s : Nat} {ro : Option Nat} {w w' : World} {m m' : Mem} {ob ob' : Nat → Option Obj} {ds : List Deferred} (h : Aux s ro w m ob ds) (e : Ext w m ob w' m' ob') : Aux s ro w' m' ob' ds := by
  have key : ∀ {b : Nat} {o : _root_.Go.Obj}, w.heap[b]? = some o → ¬ own m ob b → ¬ m.I b → w'.heap[b]? = some o ∧ ¬ own m' ob' b ∧ ¬ m'.I b := fun {b o} hb ho hI => by
    have hlt := lt_of_get hb
    refine ⟨(e.keep b hlt ho).trans hb, fun h1 => ?_, fun h1 => ?_⟩
    · rcases e.owned b h1 with h2 | h2
      · exact ho h2
      · omega
    · rcases e.grow b h1 with h2 | h2 | h2
      · exact hI h2
      · exact ho h2
      · omega
  refine ⟨fun d hd => ?_, h.nd, Nat.le_trans h.sz e.size, fun l hl => ?_⟩
  · obtain ⟨r, h1, h2, h3, h4, h5⟩ := h.marks d hd
    obtain ⟨g1, g2, g3⟩ := key h3 h4 h5
    exact ⟨r, h1, h2, g1, g2, g3⟩
  · obtain ⟨r, h3, h4, h5⟩ := h.rnd l hl
    obtain ⟨g1, g2, g3⟩ := key h3 h4 h5
    exact ⟨r, g1, g2, g3⟩
theorem Aux.less {s : Nat} {ro : Option Nat} {w : World} {m m' : Mem} {ob ob' : Nat → Option Obj} {ds : List Deferred} (h : Aux s ro w m ob ds) (hI : m'.I = m.I) (ho : ∀ b, own m' ob' b → own m ob b) : Aux s ro w m' ob' ds := by
  refine ⟨fun d hd => ?_, h.nd, h.sz, fun l hl => ?_⟩
  · obtain ⟨r, h1, h2, h3, h4, h5⟩ := h.marks d hd
    exact ⟨r, h1, h2, h3, fun hb => h4 (ho r hb), by rw [hI]; exact h5⟩
  · obtain ⟨r, h3, h4, h5⟩ := h.rnd l hl
    exact ⟨r, h3, fun hb => h4 (ho l hb), by rw [hI]; exact h5⟩
theorem Aux.nil {s : Nat} {w : World} {m : Mem} {ob : Nat → Option Obj} (h : s ≤ w.heap.size) : Aux s none w m ob [] := ⟨fun d hd => (by cases hd), List.nodup_nil, h, fun l h => (by cases h)⟩

/-- What a state of the abstract machine says of the walk: the continuation's part. -/
def Lands (s : Nat) (ro : Option Nat) (m : Mem) (w : World) (ob : Nat → Option Obj) (k' : Nat) (as' : AS) (m' : Mem) (w' : World) (a' : Act) : Prop :=
  Rel m' w' as' a' ∧ Fr k' m' ∧ Ext w m ob w' m' as'.ob ∧ Aux s ro w' m' as'.ob a'.defers

theorem Rel.know {m : Mem} {w : World} {as : AS} {a : Act} (hR : Rel m w as a) {t : Tmp} {b : Bool} (h : as.tm t = .v (.bool b)) : Rel m w (as.know t b) a := by
  have : as.know t b = as := by
    unfold AS.know upd
    have : (fun i => if i = t then AV.v (Value.bool b) else as.tm i) = as.tm := by
      funext i
      split
      · rename_i h'; rw [h', h]
      · rfl
    rw [this]
  rw [this]
  exact hR

theorem tm_get {m : Mem} {w : World} {as : AS} {a : Act} (hR : Rel m w as a) {t : Tmp} {x : Value} (h : as.tm t = .v x) (hx : x ≠ undef) : a.tmps[t]? = some x := by
  have h1 := hR.tm t
  rw [h] at h1
  have h2 : a.tmps.getD t undef = x := rep_v h1
  rw [Array.getD_eq_getD_getElem?] at h2
  cases hg : a.tmps[t]? with
  | none => rw [hg] at h2; exact absurd h2.symm hx
  | some y => rw [hg] at h2; simpa using h2

theorem wanted_of {m : Mem} {w : World} {as : AS} {a : Act} {ops : Array Oper} {o : Oper} (hR : Rel m w as a) {j t : Nat} {want b : Bool} (hg : o.guard = some (j, want)) (hd : gdst ops j = some t) (ht : as.tm t = .v (.bool b)) :
    Region.wanted o (yielded ops a.tmps) = (b == want) := by
  have h1 := tm_get hR ht (by simp [undef])
  unfold gdst at hd
  simp [Region.wanted, hg, yielded, hd, h1]

theorem unwanted_of {m : Mem} {w : World} {as : AS} {a : Act} {ops : Array Oper} {o : Oper} (hR : Rel m w as a) {j t : Nat} {want : Bool} {x : Array Value} (hg : o.guard = some (j, want)) (hd : gdst ops j = some t) (ht : as.tm t = .v (.tuple x)) :
    Region.wanted o (yielded ops a.tmps) = false := by
  have h1 := hR.tm t
  rw [ht] at h1
  have h2 : a.tmps.getD t undef = .tuple x := rep_v h1
  unfold gdst at hd
  simp only [Region.wanted, hg, yielded, hd, Option.bind_some]
  rw [Array.getD_eq_getD_getElem?] at h2
  cases hg : a.tmps[t]? with
  | none => rfl
  | some y =>
    rw [hg] at h2
    have : y = .tuple x := by simpa using h2
    subst this
    rfl

theorem put_rel {m : Mem} {w : World} {as : AS} {a : Act} (hR : Rel m w as a) (dst : Option Tmp) {r : AV} {u : Value} (h : Rep w m r u) : Rel m w (as.put dst r) (a.put dst u) :=
  put_rep (ch := []) hR hR.mr (Ext.refl _ _ _) h dst

theorem put_defers (a : Act) (d : Option Tmp) (u : Value) : (a.put d u).defers = a.defers := by cases d <;> rfl
theorem put_ob (as : AS) (d : Option Tmp) (r : AV) : (as.put d r).ob = as.ob := by
  cases d with
  | none => rfl
  | some d => unfold AS.put; simp only; split <;> rfl

theorem vcOp_sound {ops : Array Oper} {o : Oper} {k : Nat} {as : AS} {K : List (Nat × Option Obj) → AV → Prop} (h : vcOp P eq k as o K) {m : Mem} {w : World} {a : Act} (hR : Rel m w as a) (hk : Fr k m) (hd : Aux s ro w m as.ob a.defers) {Q : Exit → Act → World → Prop} {next : Act → World → Prop}
    (hnext : ∀ ch r m' w' a', K ch r → Lands s ro m w as.ob (k + 8) ((as.chg ch).put o.dst r) m' w' a' → next a' w') : o.wpIn (W ro) n P a w next Q := by
  obtain ⟨r, ch, hs, hK⟩ := vcOp_step h
  refine hs.sound hR (fun n h1 _ => hk n h1) fun u w' m' hr hm he hb => hnext ch r m' w' _ hK ⟨put_rep hR hm he hr o.dst, fun n hn => ?_, ?_, by rw [put_defers, put_ob]; exact hd.ext he⟩
  · rw [hb n (by omega)]; exact hk n (by omega)
  · rw [put_ob]; exact he

theorem vcNx_sound {o : Oper} {k : Nat} {as : AS} {K : List (Nat × Option Obj) → AV → Prop} (h : vcNx as o K) {m : Mem} {w : World} {a : Act} (hR : Rel m w as a) (hk : Fr k m) (hd : Aux s ro w m as.ob a.defers) {Q : Exit → Act → World → Prop} {next : Act → World → Prop}
    (hnext : ∀ ch r m' w' a', K ch r → Lands s ro m w as.ob (k + 8) ((as.chg ch).put o.dst r) m' w' a' → next a' w') : o.wpIn (W ro) n P a w next Q := by
  obtain ⟨it, j, p, left, last, ho, hx, hob, hK0, hK1⟩ := h
  refine ⟨fun _ _ => trivial, ?_⟩
  rw [Oper.semAt_eq _ _ o (fun c' hc' => by rw [ho] at hc'; cases hc')]
  have hxr := ev_rep hR it
  rw [hx] at hxr
  generalize hvx : a.eval it = vx at hxr
  cases hxr with
  | ptr _ _ g' hb =>
  obtain ⟨v, hv, hat⟩ := hR.mr.obs j _ hob
  rw [hb] at hv
  cases hv
  obtain ⟨r, g, es, clock, since, seen, c0, e1, hF, hI, hg, hst, hr, hold, hsc, hs2, hnd, hleft, hlp, hlast⟩ := hat.1
  cases e1
  have hst0 := (MapKept.stamped_iff es clock).1 hst.st
  have hkey : ∀ e ∈ es.toList, e.key = .int .i64 (keyI e) ∧ p (keyI e) ∧ e.val = .bool true := fun e he => by
    obtain ⟨y, h1, h2, h3⟩ := hst.key e he
    have : keyI e = y := by simp [keyI, h1]
    rw [this]; exact ⟨h1, h2, h3⟩
  have hinj : ∀ e ∈ es.toList, ∀ e' ∈ es.toList, keyI e = keyI e' → e = e' := fun e he e' he' hk => entry_eq_of_key hst0.2.2 he he' (by rw [(hkey e he).1, (hkey e' he').1, hk])
  have hgb : g ≠ g' := fun e => by rw [e, hr] at hg; cases hg
  rcases run_next_at (P := P) w o.type g' g since c0 seen es clock hr hg hold hsc with ⟨h0, hrun⟩ | ⟨e, he, w1, hal, hrun⟩
  · have hl0 : left = [] := List.eq_nil_iff_forall_not_mem.2 fun x hx => by
      obtain ⟨e, he, hke⟩ := hst.has x (hlp x hx)
      have h1 : keyI e = x := by simp [keyI, hke]
      have h2 := (hleft e he).1 (by rw [h1]; exact hx)
      rw [all_seen es seen h0 e he] at h2
      cases h2
    have hx2 : (execOp a.eval o).run P w = .ok (.value (.tuple #[.bool false])) w := by
      simp only [execOp, ho, hvx, Sem.run_bind, hrun]; rfl
    rw [hx2]
    refine hnext [] _ m w _ (hK0 hl0) ⟨put_rel (r := .tup [.v (.bool false)]) (u := .tuple #[.bool false]) hR o.dst (.tup _ _ rfl (fun j c hc => by
      match j, hc with
      | 0, hc => cases hc; exact .v _)), fun n hn => hk n (by omega), ?_, by rw [put_defers, put_ob]; exact hd⟩
    rw [put_ob]
    exact Ext.refl _ _ _
  · obtain ⟨hem, hes⟩ := mem_left he
    obtain ⟨hk1, hk2, hk3⟩ := hkey e hem
    rw [hk1, hk3] at hrun
    have hxl : keyI e ∈ left := (hleft e hem).2 hes
    have hw1h : w1.heap = w.heap := by rcases hal with rfl | rfl <;> rfl
    have hset := MapKept.heap_set (w := w1) (r := g') (o' := .mapIter (some g) since (seen.push e.born) clock) (by rw [hw1h]; exact hr)
    have hheap : ∀ b, b ≠ g' → (ChangeMaps.setBlock w1 g' (.mapIter (some g) since (seen.push e.born) clock)).heap[b]? = w.heap[b]? := fun b hb => (hset.2 b hb).trans (by rw [hw1h])
    have hnI : ¬ m.I g' := (hat.2.1 g' ((hF g').2 rfl)).2
    have hnew : MIt p (left.erase (keyI e)) (some (keyI e)) (.pointer (some ⟨g', 0, none⟩)) m.I (m.φ j) (ChangeMaps.setBlock w1 g' (.mapIter (some g) since (seen.push e.born) clock)) := by
      refine ⟨g', g, es, clock, since, seen.push e.born, clock, rfl, hF, hI, (hheap g hgb).trans hg, hst, hset.1, hold, hs2, hs2, hnd.erase _, fun e' he' => ?_, fun x hx => hlp x (List.mem_of_mem_erase hx), fun x hx => ⟨rfl, seen, e, rfl, hem, by cases hx; rfl⟩⟩
      rw [contains_push]
      by_cases hee : e' = e
      · subst hee
        simp [hnd.not_mem_erase]
      · have h1 : keyI e' ≠ keyI e := fun h => hee (hinj e' he' e hem h)
        have h2 : (e'.born == e.born) = false := by
          rw [beq_eq_false_iff_ne]
          exact fun h => hee (born_inj hst0.2.1 he' hem h)
        rw [List.mem_erase_of_ne h1, hleft e' he', h2, Bool.or_false]
    have hsz : w.heap.size = (ChangeMaps.setBlock w1 g' (.mapIter (some g) since (seen.push e.born) clock)).heap.size := by simp [ChangeMaps.setBlock, hw1h]
    have hos : w1.os = w.os ∧ w1.tape = w.tape ∧ w1.output = w.output := by rcases hal with rfl | rfl <;> exact ⟨rfl, rfl, rfl⟩
    obtain ⟨hm, hE⟩ := set_step (w' := ChangeMaps.setBlock w1 g' (.mapIter (some g) since (seen.push e.born) clock)) (o' := .opq (MIt p (left.erase (keyI e)) (some (keyI e)))) hR.mr hob rfl hb
      (fun b _ hne => hheap b fun e1 => hne (by subst e1; exact (hF b).2 rfl)) hsz hos.1 hos.2.1 hos.2.2
      ⟨hnew, fun b hb => ⟨by rw [← hsz]; exact (hat.2.1 b hb).1, (hat.2.1 b hb).2⟩, fun I' w' hs _ _ hkk => hnew.stable hs hkk⟩ (fun b hb => hb)
    have hx2 : (execOp a.eval o).run P w = .ok (.value (.tuple #[.bool true, .int .i64 (keyI e), .bool true])) (ChangeMaps.setBlock w1 g' (.mapIter (some g) since (seen.push e.born) clock)) := by
      simp only [execOp, ho, hvx, Sem.run_bind, hrun]; rfl
    rw [hx2]
    refine hnext _ _ m _ _ (hK1 _ hxl) ⟨put_rep (ch := [(j, some (.opq (MIt p (left.erase (keyI e)) (some (keyI e)))))]) (r := .tup [.v (.bool true), .v (.int .i64 (keyI e)), .v (.bool true)]) (u := .tuple #[.bool true, .int .i64 (keyI e), .bool true]) hR hm hE (.tup _ _ rfl (fun j c hc => by
      match j, hc with
      | 0, hc => cases hc; exact .v _
      | 1, hc => cases hc; exact .v _
      | 2, hc => cases hc; exact .v _)) o.dst, fun n hn => hk n (by omega), ?_, ?_⟩
    · rw [put_ob]; exact hE
    · rw [put_defers, put_ob]; exact hd.ext hE

theorem Lands.trans {m m' m'' : Mem} {w w' w'' : World} {ob : Nat → Option Obj} {k' k'' : Nat} {as' as'' : AS} {a' a'' : Act} (h : Lands s ro m w ob k' as' m' w' a') (h' : Lands s ro m' w' as'.ob k'' as'' m'' w'' a'') : Lands s ro m w ob k'' as'' m'' w'' a'' :=
  ⟨h'.1, h'.2.1, h.2.2.1.trans h'.2.2.1, h'.2.2.2⟩

/-- A region in the text's order. -/
theorem vcOps_sound {ops : Array Oper} {K : AS → Prop} {Q : Exit → Act → World → Prop} : ∀ (l : List Oper) (i k : Nat) (as : AS), ops.toList.drop i = l → vcOps P eq ops k l as K → ∀ (m : Mem) (w : World) (a : Act), Rel m w as a → Fr k m → Aux s ro w m as.ob a.defers →
    (∀ as' m' w' a', K as' → Lands s ro m w as.ob (k + 8 * l.length) as' m' w' a' → Q .normal a' w') → wpOpsIn (W ro) n P ops Q (List.range' i l.length) a w
  | [], i, k, as, hl, h, m, w, a, hR, hk, hd, hQ => hQ as m w a h ⟨hR, hk, Ext.refl _ _ _, hd⟩
  | o :: l, i, k, as, hl, h, m, w, a, hR, hk, hd, hQ => by
    have hi : ops[i]? = some o := by
      have : (ops.toList.drop i)[0]? = some o := by rw [hl]; rfl
      rw [List.getElem?_drop] at this
      simpa using this
    have hl' : ops.toList.drop (i + 1) = l := by rw [← List.drop_drop, hl]; rfl
    simp only [List.length_cons, List.range'_succ, wpOpsIn, hi]
    have hstep : ∀ as1, vcOps P eq ops (k + 8) l as1 K → ∀ m' w' a', Lands s ro m w as.ob (k + 8) as1 m' w' a' → wpOpsIn (W ro) n P ops Q (List.range' (i + 1) l.length) a' w' := fun as1 h1 m' w' a' hL =>
      vcOps_sound l (i + 1) (k + 8) as1 hl' h1 m' w' a' hL.1 hL.2.1 hL.2.2.2 fun as2 m2 w2 a2 hK hL2 => hQ as2 m2 w2 a2 hK (by
        have e : k + 8 * (l.length + 1) = k + 8 + 8 * l.length := by omega
        rw [List.length_cons, e]
        exact hL.trans hL2)
    unfold vcOps at h
    split at h
    · rename_i hg
      have hw : Region.wanted o (yielded ops a.tmps) = true := by simp [Region.wanted, hg]
      rw [if_pos hw]
      rcases h with h | h
      · exact vcOp_sound (ops := ops) h hR hk hd fun ch r m' w' a' hK hL => hstep _ hK m' w' a' hL
      · exact vcNx_sound h hR hk hd fun ch r m' w' a' hK hL => hstep _ hK m' w' a' hL
    · rename_i j want hg
      split at h
      · exact h.elim
      · rename_i t ht
        unfold onBool at h
        split at h
        · rename_i b hb
          have hw := wanted_of hR hg ht hb
          by_cases hbw : b = want
          · rw [if_pos (by rw [hw, hbw]; simp)]
            have hR' : Rel m w (as.know t want) a := hR.know (by rw [hb, hbw])
            rcases h.1 hbw with h2 | h2
            · exact vcOp_sound (ops := ops) h2 hR' hk hd fun ch r m' w' a' hK hL => hstep _ hK m' w' a' hL
            · exact vcNx_sound h2 hR' hk hd fun ch r m' w' a' hK hL => hstep _ hK m' w' a' hL
          · have hbn : b = !want := by cases b <;> cases want <;> simp_all
            rw [if_neg (by rw [hw]; simp [hbw])]
            have hR' : Rel m w (as.know t !want) a := hR.know (by rw [hb, hbn])
            refine ⟨fun _ _ => trivial, hstep _ (h.2 hbn) m w _ ⟨put_rel hR' o.dst (.v _), fun n hn => hk n (by omega), ?_, by rw [put_defers, put_ob]; exact hd⟩⟩
            rw [put_ob]
            exact Ext.refl _ _ _
        · rename_i x hx
          have hw := unwanted_of hR hg ht hx
          rw [if_neg (by rw [hw]; simp)]
          refine ⟨fun _ _ => trivial, hstep _ h m w _ ⟨put_rel hR o.dst (.v _), fun n hn => hk n (by omega), ?_, by rw [put_defers, put_ob]; exact hd⟩⟩
          rw [put_ob]
          exact Ext.refl _ _ _
        · exact h.elim

end
end Go.Proofs.YtciegkpjenjaeaaDoor.Ab
namespace Go.Proofs.YtciegkpjenjaeaaDoor.Ab
open Go Go.RowKit
set_option linter.unusedSimpArgs false
set_option linter.unusedVariables false

section
variable {P : Program} {eq : TypeId → Option (List Value)} {as as' : AS}

theorem pLoad_congr {t : TypeId} {x : AV} (h : ∀ n ∈ idsOf x, as'.ob n = as.ob n) : pLoad P as' t x = pLoad P as t x := by
  unfold pLoad
  split
  · rfl
  · split
    · rw [h _ (by simp [idsOf, idA, id1])]
    · rfl
    · rw [h _ (by simp [idsOf, idA, id1])]
    · rfl
theorem pIndexAddr_congr {t : TypeId} {x y : AV} (h : ∀ n ∈ idsOf x, as'.ob n = as.ob n) : pIndexAddr P as' t x y = pIndexAddr P as t x y := by
  unfold pIndexAddr
  split
  · split
    · rfl
    · rw [h _ (by simp [idsOf, idA, id1])]
    all_goals rfl
  · rfl

theorem evs_congr {l : List Operand} (h : ∀ x ∈ l, ev as' x = ev as x) : evs as' l = evs as l := by
  unfold evs
  exact List.map_congr_left h

theorem pureOp_congr {o : Op} (h : ∀ x ∈ o.operands.toList, ev as' x = ev as x) (hf : ∀ n ∈ fpt as o, as'.ob n = as.ob n) : pureOp P eq as' o = pureOp P eq as o := by
  have hx : still o = false → ∀ x, x ∈ o.operands.toList → ∀ n ∈ idsOf (ev as x), as'.ob n = as.ob n := fun hs x hx n hn => hf n (fpt_get hs hx hn)
  cases o with
  | move x => simp [pureOp, h x (by simp [Op.operands])]
  | assign x => simp [pureOp, h x (by simp [Op.operands])]
  | pick c a b => simp only [pureOp, h c (by simp [Op.operands]), h a (by simp [Op.operands]), h b (by simp [Op.operands])]
  | nilCheck x => simp [pureOp, h x (by simp [Op.operands])]
  | binOp op t x y t' => simp only [pureOp, h x (by simp [Op.operands]), h y (by simp [Op.operands])]
  | unOp op t x => simp [pureOp, h x (by simp [Op.operands])]
  | convert s t x => simp [pureOp, h x (by simp [Op.operands])]
  | load t x => simp only [pureOp, h x (by simp [Op.operands]), pLoad_congr (hx rfl x (by simp [Op.operands]))]
  | fieldAddr t x k => simp only [pureOp, h x (by simp [Op.operands])]
  | field t x k => simp only [pureOp, h x (by simp [Op.operands])]
  | indexAddr t x y => simp only [pureOp, h x (by simp [Op.operands]), h y (by simp [Op.operands]), pIndexAddr_congr (hx rfl x (by simp [Op.operands]))]
  | index t x y => simp only [pureOp, h x (by simp [Op.operands]), h y (by simp [Op.operands])]
  | extract x k => simp only [pureOp, h x (by simp [Op.operands])]
  | makeFunc fn first cap =>
    cases fn with
    | func g => simp only [pureOp, evs_congr (as := as) (as' := as') (l := cap.toList) (fun x hx => h x (by simp [Op.operands] at hx ⊢; exact .inr hx)), evs_congr (as := as) (as' := as') (l := first.toList) (fun x hx => h x (by simp [Op.operands] at hx ⊢; exact .inl hx))]
    | _ => rfl
  | slice t x lo hi mx =>
    cases mx with
    | some m =>
      cases lo with
      | some _ => rfl
      | none =>
        cases hi with
        | none => rfl
        | some hh => simp only [pureOp, h x (by simp [Op.operands]), h hh (by simp [Op.operands]), h m (by simp [Op.operands])]
    | none =>
      have h1 : lo.map (ev as') = lo.map (ev as) := by cases lo with | none => rfl | some l => simp [h l (by simp [Op.operands])]
      have h2 : hi.map (ev as') = hi.map (ev as) := by cases hi with | none => rfl | some l => simp [h l (by simp [Op.operands])]
      simp only [pureOp, h x (by simp [Op.operands]), h1, h2]
  | call c =>
    have ha : ∀ x ∈ c.args.toList, ev as' x = ev as x := fun x hx => h x (by simp [Op.operands, Call.operands] at hx ⊢; exact .inr hx)
    simp only [pureOp]
    split
    · split
      · rename_i x t e1 e2
        rw [ha x (by rw [e1]; simp)]
      · rfl
    · split
      · rename_i x t e1 e2
        rw [ha x (by rw [e1]; simp)]
      · rfl
    · rw [evs_congr ha]
    · rw [evs_congr ha]
    · rfl
  | _ => rfl

theorem fm_congr {α β : Type} {f g : α → List β} : ∀ {l : List α}, (∀ x ∈ l, f x = g x) → l.flatMap f = l.flatMap g
  | [], _ => rfl
  | a :: l, h => by rw [List.flatMap_cons, List.flatMap_cons, h a (by simp), fm_congr fun x hx => h x (by simp [hx])]

theorem id1_sub (a : AV) : ∀ n ∈ id1 a, n ∈ idsOf a := fun n hn => by cases a <;> simp_all [id1, idsOf, idA]
theorem toDs_congr {ob ob' : Nat → Option Obj} : ∀ {l : List AV}, (∀ a ∈ l, ∀ n ∈ id1 a, ob' n = ob n) → toDs ob' l = toDs ob l
  | [], _ => rfl
  | a :: l, h => by
    have h1 : toD ob' a = toD ob a := by
      cases a with
      | ob n len => simp only [toD, h (.ob n len) (by simp) n (by simp [id1])]
      | _ => rfl
    simp only [toDs, h1, toDs_congr (l := l) fun b hb => h b (by simp [hb])]
theorem cellsOf_ids {a : AV} {p : Prop} {cs : List AV} (h : cellsOf a = some (p, cs)) : ∀ c ∈ cs, ∀ n ∈ id1 c, n ∈ idsOf a := by
  intro c hc n hn
  cases a with
  | agg l => cases h; exact List.mem_flatMap.2 ⟨c, hc, hn⟩
  | tup l => cases h
  | un => cases h
  | bl => cases h
  | bf => cases h
  | pf => cases h
  | _ => cases h; simp at hc; subst hc; exact id1_sub _ n hn
theorem mem_put {α : Type} : ∀ {cs : List α} {k : Nat} {ns : List α} {x : α}, x ∈ put cs k ns → x ∈ cs ∨ x ∈ ns
  | cs, _, [], x, h => by simp [put] at h; exact .inl h
  | [], _, _ :: _, x, h => by simp [put] at h
  | _ :: cs, 0, n :: ns, x, h => by
    simp [put] at h
    rcases h with rfl | h
    · simp
    · rcases mem_put h with h | h <;> simp [h]
  | c :: cs, k + 1, n :: ns, x, h => by
    simp [put] at h
    rcases h with rfl | h
    · simp
    · rcases mem_put h with h | h
      · simp [h]
      · exact .inr h
theorem aFill_ids {place : Nat → Option (Nat × Nat)} : ∀ {parts : List (Nat × AV)} {cells r : List AV} {p : Prop}, aFill place cells parts = some (p, r) → ∀ c ∈ r, ∀ n ∈ id1 c, (∃ c' ∈ cells, n ∈ id1 c') ∨ ∃ q ∈ parts, n ∈ idsOf q.2
  | [], cells, r, p, h, c, hc, n, hn => by cases h; exact .inl ⟨c, hc, hn⟩
  | (i, a) :: rest, cells, r, p, h, c, hc, n, hn => by
    unfold aFill at h
    split at h
    · rename_i off size q cs hpl hcs
      split at h
      · rename_i q' r' hrest
        cases h
        rcases aFill_ids hrest c hc n hn with ⟨c', hc', hn'⟩ | ⟨q2, hq2, hn'⟩
        · rcases mem_put hc' with h1 | h1
          · exact .inl ⟨c', h1, hn'⟩
          · exact .inr ⟨(i, a), by simp, cellsOf_ids hcs c' h1 n hn'⟩
        · exact .inr ⟨q2, by simp [hq2], hn'⟩
      · cases h
    · cases h
theorem flat_ids {zs : List Value} {len : Nat} : ∀ c ∈ ((List.replicate len (zs.map AV.v)).flatten), id1 c = [] := by
  intro c hc
  obtain ⟨l, hl, hcl⟩ := List.mem_flatten.1 hc
  rw [List.eq_of_mem_replicate hl] at hcl
  obtain ⟨v, _, rfl⟩ := List.mem_map.1 hcl
  rfl

theorem parts_congr {parts : Array (Nat × Operand)} (h : ∀ q ∈ parts.toList, ev as' q.2 = ev as q.2) : (parts.toList.map fun q => (q.1, ev as' q.2)) = parts.toList.map fun q => (q.1, ev as q.2) :=
  List.map_congr_left fun q hq => by rw [h q hq]

theorem opD_congr {k : Nat} {o : Op} (h : ∀ x ∈ o.operands.toList, ev as' x = ev as x) (hf : ∀ n ∈ fpt as o, as'.ob n = as.ob n) : opD P k as' o = opD P k as o := by
  have hx : still o = false → ∀ x, x ∈ o.operands.toList → ∀ n ∈ idsOf (ev as x), as'.ob n = as.ob n := fun hs x hx n hn => hf n (fpt_get hs hx hn)
  cases o with
  | box t x => simp only [opD, h x (by simp [Op.operands])]
  | alloc t => rfl
  | store t x y =>
    simp only [opD, h x (by simp [Op.operands]), h y (by simp [Op.operands])]
    split
    · rename_i ag sz p cs ht hcs
      split
      · rename_i n off he
        rw [hx rfl x (by simp [Op.operands]) n (by rw [he]; simp [idsOf, idA, id1])]
      · rename_i n s i off he
        rw [hx rfl x (by simp [Op.operands]) n (by rw [he]; simp [idsOf, idA, id1]), toDs_congr (ob := as.ob) (ob' := as'.ob) fun a ha n hn => hx rfl y (by simp [Op.operands]) n (cellsOf_ids hcs a ha n hn)]
      · rfl
    · rfl
  | makeSlice t l c => simp only [opD, h l (by simp [Op.operands]), h c (by simp [Op.operands])]
  | makeMap t r => cases r <;> rfl
  | mapUpdate t x y z =>
    simp only [opD, h x (by simp [Op.operands]), h y (by simp [Op.operands]), h z (by simp [Op.operands])]
    split
    · rename_i q et n q' i e1 e2 e3
      rw [hx rfl x (by simp [Op.operands]) n (by rw [e2]; simp [idsOf, idA, id1]), toDs_congr (ob := as.ob) (ob' := as'.ob) fun a ha n hn => ?_]
      have ha' : a = ev as z := by simpa using ha
      subst ha'
      exact hx rfl z (by simp [Op.operands]) n (id1_sub _ n hn)
    · rfl
  | insert t x y z =>
    simp only [opD, h x (by simp [Op.operands]), h y (by simp [Op.operands]), h z (by simp [Op.operands])]
    split
    · rename_i q et n q' i e1 e2 e3
      rw [hx rfl x (by simp [Op.operands]) n (by rw [e2]; simp [idsOf, idA, id1]), toDs_congr (ob := as.ob) (ob' := as'.ob) fun a ha n hn => ?_]
      have ha' : a = ev as z := by simpa using ha
      subst ha'
      exact hx rfl z (by simp [Op.operands]) n (id1_sub _ n hn)
    · rfl
  | lookup t x y ok =>
    simp only [opD, h x (by simp [Op.operands]), h y (by simp [Op.operands])]
    split
    · rename_i q et n q' i e1 e2 e3
      rw [hx rfl x (by simp [Op.operands]) n (by rw [e2]; simp [idsOf, idA, id1])]
    · rfl
    · rfl
  | range t x => simp only [opD, h x (by simp [Op.operands])]
  | buildSlice t len parts =>
    have hp : ∀ q ∈ parts.toList, q.2 ∈ (Op.buildSlice t len parts).operands.toList := fun q hq => by
      simp only [Op.operands]; exact List.mem_map.2 ⟨q, hq, rfl⟩
    simp only [opD, parts_congr fun q hq => h q.2 (hp q hq)]
    split
    · split
      · split
        · rename_i p cs hcs
          rw [toDs_congr (ob := as.ob) (ob' := as'.ob) fun a ha n hn => ?_]
          rcases aFill_ids hcs a ha n hn with ⟨c', hc', hn'⟩ | ⟨q, hq, hn'⟩
          · rw [flat_ids c' hc'] at hn'; simp at hn'
          · obtain ⟨q', hq', rfl⟩ := List.mem_map.1 hq
            exact hx rfl q'.2 (hp q' hq') n hn'
        · rfl
      · rfl
    · rfl
  | build t parts =>
    have hp : ∀ q ∈ parts.toList, q.2 ∈ (Op.build t parts).operands.toList := fun q hq => by
      simp only [Op.operands]; exact List.mem_map.2 ⟨q, hq, rfl⟩
    simp only [opD, parts_congr fun q hq => h q.2 (hp q hq)]
  | slice t x lo hi mx =>
    cases mx with
    | some _ => rfl
    | none =>
      have h1 : lo.map (ev as') = lo.map (ev as) := by cases lo with | none => rfl | some l => simp [h l (by simp [Op.operands])]
      have h2 : hi.map (ev as') = hi.map (ev as) := by cases hi with | none => rfl | some l => simp [h l (by simp [Op.operands])]
      simp only [opD, h x (by simp [Op.operands]), h1, h2]
      split
      · rename_i n len he
        rw [hx rfl x (by simp [Op.operands]) n (by rw [he]; simp [idsOf, idA, id1])]
      · rfl
  | call c =>
    have hm : ∀ x ∈ c.args.toList, x ∈ (Op.call c).operands.toList := fun x hx => by simp [Op.operands, Call.operands] at hx ⊢; exact .inr hx
    simp only [opD]
    split
    · split
      · rename_i s x t t' e1 e2
        have hs := hm s (by rw [e1]; simp)
        have hxx := hm x (by rw [e1]; simp)
        have hsrc : srcRows as' (ev as x) = srcRows as (ev as x) := by
          unfold srcRows
          split
          · rfl
          · rename_i n len he
            rw [hx rfl x hxx n (by rw [he]; simp [idsOf, idA, id1])]
          · rfl
        rw [h s hs, h x hxx]
        have hS : appS P k as' t t' (ev as s) (ev as x) = appS P k as t t' (ev as s) (ev as x) := by
          unfold appS
          rw [hsrc]
          split
          · split
            · split
              · rfl
              · rename_i n len he
                rw [hx rfl s hs n (by rw [he]; simp [idsOf, idA, id1])]
              · rfl
              · rfl
            · rfl
          · rfl
        split
        · rfl
        · exact hS
      · rfl
    · rfl
  | _ => rfl

theorem frCh_congr {ob ob' : Nat → Option Obj} : ∀ {l : List Nat}, (∀ n ∈ l, ob' n = ob n) → frCh ob' l = frCh ob l
  | [], _ => rfl
  | n :: l, h => by
    have h0 := h n (by simp)
    have hl : ∀ n ∈ l, ob' n = ob n := fun q hq => h q (by simp [hq])
    simp only [frCh, h0]
    cases hob : ob n with
    | none => simp only [frCh_congr hl]
    | some o =>
      cases o with
      | box => simp only [frCh_congr hl]
      | opq => simp only [frCh_congr hl]
      | map => simp only [frCh_congr hl]
      | row e sz rows fz =>
        cases fz with
        | true => simp only [frCh_congr hl]
        | false =>
          simp only
          rw [frCh_congr (ob := upd ob n (some (.row e sz rows true))) (ob' := upd ob' n (some (.row e sz rows true))) fun q hq => by unfold upd; split <;> simp [hl q hq]]

theorem app_congr {n : Nat} : ∀ (c : List (Nat × Option Obj)) {ob ob' : Nat → Option Obj}, ob' n = ob n → app ob' c n = app ob c n
  | [], _, _, h => h
  | (k, o) :: c, ob, ob', h => app_congr c (by unfold upd; split <;> simp [h])

theorem ob1_sub (a : AV) : ∀ n ∈ ob1 a, n ∈ id1 a := fun n hn => by cases a <;> simp_all [ob1, id1]
theorem obIds_sub (a : AV) : ∀ n ∈ obIds a, n ∈ idsOf a := fun n hn => by
  cases a with
  | agg l =>
    obtain ⟨c, hc, hn'⟩ := List.mem_flatMap.1 hn
    exact List.mem_flatMap.2 ⟨c, hc, ob1_sub c n hn'⟩
  | _ => simp_all [obIds, idsOf, idA, id1]

theorem frOf_sub {o : Op} : ∀ n ∈ frOf as o, n ∈ fpt as o := by
  intro n hn
  have key : still o = false → ∀ x, x ∈ o.operands.toList → n ∈ idsOf (ev as x) → n ∈ fpt as o := fun hs x hx h => fpt_get hs hx h
  cases o with
  | store t x y =>
    simp only [frOf] at hn
    split at hn
    · exact key rfl y (by simp [Op.operands]) (obIds_sub _ n hn)
    · simp at hn
  | buildSlice t len parts =>
    obtain ⟨q, hq, hn'⟩ := List.mem_flatMap.1 hn
    exact key rfl q.2 (by simp only [Op.operands]; exact List.mem_map.2 ⟨q, hq, rfl⟩) (obIds_sub _ n hn')
  | slice t x lo hi mx =>
    simp only [frOf] at hn
    split at hn
    · rename_i q len he
      exact key rfl x (by simp [Op.operands]) (by rw [he]; simpa [idsOf, idA, id1] using hn)
    · simp at hn
  | mapUpdate t x y z => exact key rfl z (by simp [Op.operands]) (obIds_sub _ n (by simpa [frOf] using hn))
  | insert t x y z => exact key rfl z (by simp [Op.operands]) (obIds_sub _ n (by simpa [frOf] using hn))
  | _ => simp [frOf] at hn

theorem frOf_congr {o : Op} (h : ∀ x ∈ o.operands.toList, ev as' x = ev as x) : frOf as' o = frOf as o := by
  cases o with
  | store t x y => simp only [frOf, h x (by simp [Op.operands]), h y (by simp [Op.operands])]
  | buildSlice t len parts =>
    simp only [frOf]
    apply fm_congr
    intro q hq
    rw [h q.2 (by simp only [Op.operands]; exact List.mem_map.2 ⟨q, hq, rfl⟩)]
  | slice t x lo hi mx => simp only [frOf, h x (by simp [Op.operands])]
  | mapUpdate t x y z => simp only [frOf, h z (by simp [Op.operands])]
  | insert t x y z => simp only [frOf, h z (by simp [Op.operands])]
  | _ => rfl

theorem fpt_congr {o : Op} (h : ∀ x ∈ o.operands.toList, ev as' x = ev as x) (hf : ∀ n ∈ fpt as o, rfO (as'.ob n) = rfO (as.ob n)) : fpt as' o = fpt as o := by
  have hfm : (o.operands.toList.flatMap fun x => idsOf (ev as' x)) = o.operands.toList.flatMap fun x => idsOf (ev as x) := by
    apply fm_congr
    intro x hx
    rw [h x hx]
  cases hs : still o with
  | true => cases o <;> first | rfl | cases hs
  | false =>
    cases o with
    | call c =>
      obtain ⟨ce, xs, ts⟩ := c
      cases ce with
      | value x =>
        show deep as'.ob 2 _ = deep as.ob 2 _
        rw [hfm]
        exact deep_congr 2 _ hf
      | _ => exact hfm
    | _ => first | exact hfm | cases hs
theorem rfO_fr : ∀ (l : List Nat) (ob : Nat → Option Obj) (n : Nat), rfO (app ob (frCh ob l) n) = rfO (ob n)
  | [], _, _ => rfl
  | i :: l, ob, n => by
    simp only [frCh]
    split
    · rename_i e sz rows hi
      simp only [app]
      rw [rfO_fr l]
      unfold upd
      split
      · rename_i hn; rw [hn, hi]; rfl
      · rfl
    · exact rfO_fr l ob n

theorem low1_congr {ob ob' : Nat → Option Obj} {ln : List Nat} {a : AV} (h : ∀ n ∈ id1 a, ob' n = ob n) : low1 ob' ln a = low1 ob ln a := by
  cases a with
  | ob n len => simp only [low1, h n (by simp [id1])]
  | pf n len => simp only [low1, h n (by simp [id1])]
  | _ => rfl
theorem low_congr {ob ob' : Nat → Option Obj} {ln : List Nat} {a : AV} (h : ∀ n ∈ idsOf a, ob' n = ob n) : low ob' ln a = low ob ln a := by
  cases a with
  | agg l =>
    simp only [low]
    congr 1
    exact List.map_congr_left fun c hc => low1_congr fun n hn => h n (List.mem_flatMap.2 ⟨c, hc, hn⟩)
  | fn g cap => rfl
  | _ => exact low1_congr (ln := ln) fun n hn => h n (id1_sub _ n hn)
theorem id1_subA (a : AV) : ∀ n ∈ id1 a, n ∈ idA a := fun n hn => by cases a <;> simp_all [id1, idA]
theorem low_congrA {ob ob' : Nat → Option Obj} {ln : List Nat} {a : AV} (h : ∀ n ∈ idA a, ob' n = ob n) : low ob' ln a = low ob ln a := by
  cases a with
  | fn g cap => rfl
  | agg l =>
    simp only [low]
    congr 1
    exact List.map_congr_left fun c hc => low1_congr fun n hn => h n (List.mem_flatMap.2 ⟨c, hc, hn⟩)
  | _ => exact low1_congr (ln := ln) fun n hn => h n (id1_subA _ n hn)
theorem preOk_congr {ρ : Nat → Option (Option Nat)} {ob ob' : Nat → Option Obj} : ∀ {τ : List Nat} {pre : List Obj}, (∀ n ∈ τ, ob' n = ob n) → preOk ρ ob τ pre → preOk ρ ob' τ pre
  | [], [], _, _ => trivial
  | q :: τ, o :: pre, h, hp => ⟨by rw [h q (by simp)]; exact hp.1, preOk_congr (fun n hn => h n (by simp [hn])) hp.2⟩
  | [], _ :: _, _, hp => hp.elim
  | _ :: _, [], _, hp => hp.elim

theorem Step0.congr {k : Nat} {o : Oper} {r : AV} {ch : List (Nat × Option Obj)} (hs : Step0 P eq k o as r ch) (h : ∀ x ∈ o.op.operands.toList, ev as' x = ev as x) (hf : ∀ n ∈ fpt as o.op, as'.ob n = as.ob n) : Step0 P eq k o as' r ch := by
  have e1 : frCh as'.ob (frOf as' o.op) = frCh as.ob (frOf as o.op) := by
    rw [frOf_congr h]
    exact frCh_congr fun n hn => hf n (frOf_sub n hn)
  cases hs with
  | pure p r hp hpp => exact .pure p r (by rw [pureOp_congr h hf]; exact hp) hpp
  | mem p r set hp hpp =>
    rw [← e1]
    refine .mem p r set ?_ hpp
    rw [← hp, e1]
    refine opD_congr (as := as.chg (frCh as.ob (frOf as o.op))) (as' := as'.chg (frCh as.ob (frOf as o.op))) (fun x hx => ?_) (fun n hn => ?_)
    · have : ∀ (s : AS) c, ev (s.chg c) x = ev s x := fun s c => by cases x <;> rfl
      rw [this, this]; exact h x hx
    · have hfp : fpt (as.chg (frCh as.ob (frOf as o.op))) o.op = fpt as o.op := fpt_congr (fun x _ => by cases x <;> rfl) (fun n _ => rfO_fr _ _ n)
      rw [hfp] at hn
      exact app_congr _ (hf n hn)
  | call c x g cap fr ln τ args' pre r post ho hc hx hsub hτ hlt hln hle hpre hlend hsp =>
    have e2 : frCh as'.ob fr = frCh as.ob fr := frCh_congr fun n hn => hf n (hsub n (.inl hn))
    have happ : ∀ n ∈ fpt as o.op, app as'.ob (frCh as.ob fr) n = app as.ob (frCh as.ob fr) n := fun n hn => app_congr _ (hf n hn)
    rw [← e2]
    have hm : ∀ y ∈ c.args.toList, y ∈ o.op.operands.toList := fun y hy => by rw [ho]; simp [Op.operands, Call.operands] at hy ⊢; exact .inr hy
    have hmx : x ∈ o.op.operands.toList := by rw [ho]; simp [Op.operands, Call.operands, hc]
    refine .call c x g cap fr ln τ args' pre r post ho hc (by rw [h x hmx]; exact hx) (by rw [fpt_congr h (fun n hn => by rw [hf n hn])]; exact hsub) hτ hlt (fun n hn => ?_) ?_ ?_ hlend hsp
    · rw [e2, happ n (hsub n (.inr (.inl hn)))]
      exact hln n hn
    · rw [e2, evs_congr fun y hy => h y (hm y hy)]
      have : (evs as c.args.toList ++ cap).map (low (app as'.ob (frCh as.ob fr)) ln) = (evs as c.args.toList ++ cap).map (low (app as.ob (frCh as.ob fr)) ln) := by
        refine List.map_congr_left fun a ha => ?_
        rcases List.mem_append.1 ha with ha | ha
        · obtain ⟨y, hy, rfl⟩ := List.mem_map.1 ha
          exact low_congr fun n hn => happ n (fpt_get (by rw [ho]; rfl) (hm y hy) hn)
        · exact low_congrA fun n hn => happ n (fpt_get (by rw [ho]; rfl) hmx (by rw [hx]; exact List.mem_flatMap.2 ⟨a, ha, hn⟩))
      rw [this]
      exact hle
    · rw [e2]
      exact preOk_congr (fun n hn => happ n (hsub n (.inr (.inr hn)))) hpre
  | cut t x y n0 len e e' sz rows kh hv ho hx hob hh h0 h1 ht hfp =>
    refine .cut t x y n0 len e e' sz rows kh hv ho (by rw [h x (by rw [ho]; simp [Op.operands])]; exact hx) (by rw [hf n0 hfp]; exact hob) (by rw [h y (by rw [ho]; simp [Op.operands])]; exact hh) h0 h1 ht (by rw [fpt_congr h (fun n hn => by rw [hf n hn])]; exact hfp)
  | sem r ch hd hs =>
    refine .sem r ch hd fun o' as'' ho hx hf' => hs o' as'' ho (fun x hm => (hx x hm).trans (h x hm)) fun n hn => ?_
    have hfp : fpt as' o.op = fpt as o.op := fpt_congr h fun n hn => by rw [hf n hn]
    exact (hf' n (by rw [hfp]; exact hn)).trans (hf n hn)
  | ent it n p left x ho hx hob =>
    have hm : it ∈ o.op.operands.toList := by rw [ho]; simp [Op.operands]
    have h0 : n ∈ fpt as o.op := fpt_get (by rw [ho]; rfl) hm (by rw [hx]; simp [idsOf, idA, id1])
    exact .ent it n p left x ho (by rw [h it hm]; exact hx) (by rw [hf n h0]; exact hob)
  | ldo t x b off val Φ ho hx ht hob hΦ =>
    have hm : x ∈ o.op.operands.toList := by rw [ho]; simp [Op.operands]
    have h0 : 0 ∈ fpt as o.op := fpt_get (by rw [ho]; rfl) hm (by rw [hx]; simp [idsOf, idA])
    exact .ldo t x b off val Φ ho (by rw [h x hm]; exact hx) ht (by rw [hf 0 h0]; exact hob) hΦ
  | cb c x n0 fr ln τ args' pre r post ho hc hx hn0 hsub hτ hlt hln hle hpre hlend hsp =>
    have e2 : frCh as'.ob fr = frCh as.ob fr := frCh_congr fun n hn => hf n (hsub n (.inl hn))
    have happ : ∀ n ∈ fpt as o.op, app as'.ob (frCh as.ob fr) n = app as.ob (frCh as.ob fr) n := fun n hn => app_congr _ (hf n hn)
    rw [← e2]
    have hm : ∀ y ∈ c.args.toList, y ∈ o.op.operands.toList := fun y hy => by rw [ho]; simp [Op.operands, Call.operands] at hy ⊢; exact .inr hy
    have hmx : x ∈ o.op.operands.toList := by rw [ho]; simp [Op.operands, Call.operands, hc]
    refine .cb c x n0 fr ln τ args' pre r post ho hc (by rw [h x hmx]; exact hx) hn0 (by rw [fpt_congr h (fun n hn => by rw [hf n hn])]; exact hsub) hτ hlt (fun n hn => ?_) ?_ ?_ hlend hsp
    · rw [e2, happ n (hsub n (.inr (.inl hn)))]
      exact hln n hn
    · rw [e2, evs_congr fun y hy => h y (hm y hy)]
      have : (evs as c.args.toList).map (low (app as'.ob (frCh as.ob fr)) ln) = (evs as c.args.toList).map (low (app as.ob (frCh as.ob fr)) ln) := by
        refine List.map_congr_left fun a ha => ?_
        obtain ⟨y, hy, rfl⟩ := List.mem_map.1 ha
        exact low_congr fun n hn => happ n (fpt_get (by rw [ho]; rfl) (hm y hy) hn)
      rw [this]
      exact hle
    · rw [e2]
      exact preOk_congr (fun n hn => happ n (hsub n (.inr (.inr hn)))) hpre

theorem app_key {n : Nat} : ∀ (c : List (Nat × Option Obj)) (ob ob' : Nat → Option Obj), n ∈ c.map (·.1) → app ob c n = app ob' c n
  | [], _, _, h => by simp at h
  | (k, o) :: c, ob, ob', h => by
    by_cases hc : n ∈ c.map (·.1)
    · exact app_key c _ _ hc
    · have hk : n = k := by
        rcases List.mem_cons.1 h with h | h
        · exact h
        · exact absurd h hc
      subst hk
      exact app_congr c (by simp [upd])
theorem app_nokey {n : Nat} : ∀ (c : List (Nat × Option Obj)) (ob : Nat → Option Obj), n ∉ c.map (·.1) → app ob c n = ob n
  | [], _, _ => rfl
  | (k, o) :: c, ob, h => by
    simp only [List.map_cons, List.mem_cons, not_or] at h
    rw [app, app_nokey c _ h.2]
    simp [upd, h.1]
theorem Step.congr {k : Nat} {o : Oper} {r : AV} {ch : List (Nat × Option Obj)} (hs : Step P eq k o as r ch) (h : ∀ x ∈ o.op.operands.toList, ev as' x = ev as x) (hf : ∀ n ∈ fpt as o.op, as'.ob n = as.ob n) : Step P eq k o as' r ch := by
  cases hs with
  | base hs => exact .base (hs.congr h hf)
  | thin ch0 hs h1 hk =>
    refine .thin ch0 (hs.congr h hf) (fun n => ?_) (fun n hn => hk n (by rw [← fpt_congr h (fun n hn => by rw [hf n hn])]; exact hn))
    by_cases hn : n ∈ fpt as o.op
    · rw [app_congr ch0 (hf n hn), app_congr ch (hf n hn)]
      exact h1 n
    · by_cases hc : n ∈ ch0.map (·.1)
      · rw [app_key ch0 as'.ob as.ob hc, app_key ch as'.ob as.ob ((hk n hn).1 hc)]
        exact h1 n
      · rw [app_nokey ch0 _ hc, app_nokey ch _ (fun h2 => hc ((hk n hn).2 h2))]
end
end Go.Proofs.YtciegkpjenjaeaaDoor.Ab
namespace Go.Proofs.YtciegkpjenjaeaaDoor.Ab
open Go Go.RowKit
set_option linter.unusedSimpArgs false
set_option linter.unusedVariables false

/-! ### who must come before whom -/
def afterBits (rc : List Nat) (o : Oper) : Nat := o.after.toList.foldl (fun s e => if Region.binds .any e then s ||| 2 ^ e.on ||| rc.getD e.on 0 else s) 0
def closure : List Nat → List Oper → List Nat
  | rc, [] => rc
  | rc, o :: l => closure (rc ++ [afterBits rc o]) l
def reach (ops : Array Oper) (j i : Nat) : Bool := ((closure [] ops.toList).getD i 0).testBit j

theorem fold_bits (rc : List Nat) (j : Nat) : ∀ (l : List Edge) (s : Nat), (l.foldl (fun s e => if Region.binds .any e then s ||| 2 ^ e.on ||| rc.getD e.on 0 else s) s).testBit j = true → s.testBit j = true ∨ ∃ e ∈ l, Region.binds .any e = true ∧ (j = e.on ∨ (rc.getD e.on 0).testBit j = true)
  | [], s, h => .inl h
  | e :: l, s, h => by
    rw [List.foldl_cons] at h
    rcases fold_bits rc j l _ h with h1 | ⟨e', he', hb, h2⟩
    · split at h1
      · rename_i hb
        rw [Nat.testBit_or, Nat.testBit_or, Bool.or_eq_true, Bool.or_eq_true] at h1
        rcases h1 with (h1 | h1) | h1
        · exact .inl h1
        · rw [Nat.testBit_two_pow] at h1
          exact .inr ⟨e, by simp, hb, .inl (by simp at h1; exact h1.symm)⟩
        · exact .inr ⟨e, by simp, hb, .inr h1⟩
      · exact .inl h1
    · exact .inr ⟨e', by simp [he'], hb, h2⟩

theorem closure_pre : ∀ (l : List Oper) (rc : List Nat), ∃ r, closure rc l = rc ++ r ∧ ∀ i o, l[i]? = some o → (closure rc l)[rc.length + i]? = some (afterBits ((closure rc l).take (rc.length + i)) o)
  | [], rc => ⟨[], by simp [closure], fun i o h => by simp at h⟩
  | o :: l, rc => by
    obtain ⟨r, hr, hg⟩ := closure_pre l (rc ++ [afterBits rc o])
    have hr' : closure rc (o :: l) = rc ++ (afterBits rc o :: r) := by rw [show closure rc (o :: l) = closure (rc ++ [afterBits rc o]) l from rfl, hr]; simp
    refine ⟨_, hr', fun i o' h => ?_⟩
    cases i with
    | zero =>
      simp at h
      subst h
      rw [hr']
      simp
    | succ i =>
      have := hg i o' (by simpa using h)
      rw [List.length_append, List.length_singleton] at this
      have e : rc.length + (i + 1) = rc.length + 1 + i := by omega
      rw [e]
      exact this

theorem reach_step {ops : Array Oper} {j i : Nat} (h : reach ops j i = true) : ∃ o e, ops[i]? = some o ∧ e ∈ o.after ∧ Region.binds .any e = true ∧ (j = e.on ∨ (e.on < i ∧ reach ops j e.on = true)) := by
  unfold reach at h
  obtain ⟨r, hr, hg⟩ := closure_pre ops.toList []
  cases ho : ops[i]? with
  | none =>
    exfalso
    have hlen : ∀ (l : List Oper) (rc : List Nat), (closure rc l).length = rc.length + l.length := by
      intro l
      induction l with
      | nil => intro rc; rfl
      | cons o l ih => intro rc; rw [show closure rc (o :: l) = closure (rc ++ [afterBits rc o]) l from rfl, ih]; simp; omega
    have hi : ops.size ≤ i := by
      rcases Nat.lt_or_ge i ops.size with h' | h'
      · rw [Array.getElem?_eq_getElem h'] at ho; cases ho
      · exact h'
    have : (closure [] ops.toList).getD i 0 = 0 := by
      rw [List.getD_eq_getElem?_getD, List.getElem?_eq_none (by rw [hlen]; simpa using hi)]
      rfl
    rw [this] at h
    simp at h
  | some o =>
    have hgi := hg i o (by simpa using ho)
    simp only [List.length_nil, Nat.zero_add] at hgi
    rw [List.getD_eq_getElem?_getD, hgi] at h
    simp only [Option.getD_some] at h
    rcases fold_bits _ j _ _ h with h1 | ⟨e, he, hb, h2⟩
    · simp at h1
    · refine ⟨o, e, rfl, by simpa using he, hb, ?_⟩
      rcases h2 with h2 | h2
      · exact .inl h2
      · right
        rw [List.getD_eq_getElem?_getD, List.getElem?_take] at h2
        split at h2
        · rename_i hlt
          exact ⟨hlt, by rw [reach, List.getD_eq_getElem?_getD]; exact h2⟩
        · simp at h2

theorem reach_closed {ops : Array Oper} {S : Nat → Prop} (hS : ∀ x o, S x → ops[x]? = some o → ∀ e ∈ o.after, Region.binds .any e = true → S e.on) : ∀ (i j : Nat), (∀ o, ops[i]? = some o → ∀ e ∈ o.after, Region.binds .any e = true → S e.on) → reach ops j i = true → S j := by
  intro i
  induction i using Nat.strongRecOn with
  | ind i ih =>
    intro j hi h
    obtain ⟨o, e, ho, he, hb, h2⟩ := reach_step h
    have hse := hi o ho e he hb
    rcases h2 with rfl | ⟨hlt, h2⟩
    · exact hse
    · exact ih e.on hlt j (fun o' ho' => hS _ o' hse ho') h2

/-- How long a way of edges leads to an operation: found by some rounds, and then looked at. -/
def rkGo (md : Region.Mode) (old : List Nat) : List Oper → Nat → List Nat → List Nat
  | [], _, acc => acc
  | o :: l, i, acc => rkGo md old l (i + 1) (acc ++ [o.after.toList.foldl (fun s e => if Region.binds md e then max s ((if e.on < i then acc.getD e.on 0 else old.getD e.on 0) + 1) else s) 0])
def rkOf (md : Region.Mode) (l : List Oper) : List Nat :=
  let r1 := rkGo md [] l 0 []
  let r2 := rkGo md r1 l 0 []
  let r3 := rkGo md r2 l 0 []
  rkGo md r3 l 0 []
def rkOk (md : Region.Mode) (ops : Array Oper) (r : List Nat) : Bool := (List.range ops.size).all fun i => match ops[i]? with
  | none => true
  | some o => o.after.toList.all fun e => !Region.binds md e || (decide (e.on < ops.size) && decide (r.getD e.on 0 < r.getD i 0))
/-- Of a region whose order is drawn: the edges lead to no ring; of two operations of which none must come before the other none sets a temporary that the other looks at. -/
def drawOk (ops : Array Oper) : Bool :=
  let rc := closure [] ops.toList
  ((List.range ops.size).all (fun i => match ops[i]? with
    | none => true
    | some o => o.after.toList.all (fun e => !Region.binds .any e || decide (e.on < i)) && (List.range i).all fun j => (rc.getD i 0).testBit j || (match ops[j]? with
      | some x => x.apart ops o
      | none => true))) &&
  ((List.range ops.size).all (fun i => match ops[i]? with
    | none => true
    | some o => o.after.toList.all (fun e => decide (e.on < i))) ||
   rkOk .text ops (List.range ops.size) && rkOk .gc ops (rkOf .gc ops.toList))

theorem drawOk_back {ops : Array Oper} (h : drawOk ops = true) {i : Nat} {o : Oper} (ho : ops[i]? = some o) : ∀ e ∈ o.after, Region.binds .any e = true → e.on < i := by
  intro e he hb
  have hi : i < ops.size := (Array.getElem?_eq_some_iff.1 ho).1
  unfold drawOk at h
  simp only [Bool.and_eq_true] at h
  have := List.all_eq_true.1 h.1 i (by simpa using hi)
  simp only [ho, Bool.and_eq_true] at this
  have := List.all_eq_true.1 this.1 e (by simpa using he)
  simpa [hb] using this

theorem rkOk_get {md : Region.Mode} {ops : Array Oper} {r : List Nat} (h : rkOk md ops r = true) {i : Nat} {o : Oper} (ho : ops[i]? = some o) : ∀ e ∈ o.after, Region.binds md e = true → e.on < ops.size ∧ r.getD e.on 0 < r.getD i 0 := by
  intro e he hb
  have hi : i < ops.size := (Array.getElem?_eq_some_iff.1 ho).1
  have := List.all_eq_true.1 h i (by simpa using hi)
  simp only [ho] at this
  have := List.all_eq_true.1 this e (by simpa using he)
  simpa [hb] using this

/-- In whatever mode: the edges lead to no ring. -/
theorem drawOk_rank {ops : Array Oper} (h : drawOk ops = true) (md : Region.Mode) : ∃ f : Nat → Nat, ∀ (i : Nat) o, ops[i]? = some o → ∀ e ∈ o.after, Region.binds md e = true → e.on < ops.size ∧ f e.on < f i := by
  cases md with
  | any =>
    refine ⟨fun i => i, fun i o ho e he hb => ?_⟩
    have h1 := drawOk_back h ho e he hb
    have hi : i < ops.size := (Array.getElem?_eq_some_iff.1 ho).1
    exact ⟨by omega, h1⟩
  | text =>
    unfold drawOk at h
    simp only [Bool.and_eq_true, Bool.or_eq_true] at h
    rcases h.2 with h2 | h2
    · refine ⟨fun i => i, fun i o ho e he _ => ?_⟩
      have hi : i < ops.size := (Array.getElem?_eq_some_iff.1 ho).1
      have := List.all_eq_true.1 h2 i (by simpa using hi)
      simp only [ho] at this
      have := List.all_eq_true.1 this e (by simpa using he)
      simp at this
      exact ⟨by omega, this⟩
    · exact ⟨fun i => (List.range ops.size).getD i 0, fun i o ho => rkOk_get h2.1 ho⟩
  | gc =>
    unfold drawOk at h
    simp only [Bool.and_eq_true, Bool.or_eq_true] at h
    rcases h.2 with h2 | h2
    · refine ⟨fun i => i, fun i o ho e he _ => ?_⟩
      have hi : i < ops.size := (Array.getElem?_eq_some_iff.1 ho).1
      have := List.all_eq_true.1 h2 i (by simpa using hi)
      simp only [ho] at this
      have := List.all_eq_true.1 this e (by simpa using he)
      simp at this
      exact ⟨by omega, this⟩
    · exact ⟨fun i => (rkOf .gc ops.toList).getD i 0, fun i o ho => rkOk_get h2.2 ho⟩
theorem exists_min (f : Nat → Nat) : ∀ {l : List Nat}, l ≠ [] → ∃ i ∈ l, ∀ j ∈ l, f i ≤ f j
  | [], h => absurd rfl h
  | [a], _ => ⟨a, by simp, fun j hj => by simp at hj; subst hj; exact Nat.le_refl _⟩
  | a :: b :: l, _ => by
    obtain ⟨i, hi, h⟩ := exists_min f (l := b :: l) (by simp)
    by_cases hc : f a ≤ f i
    · refine ⟨a, by simp, fun j hj => ?_⟩
      rcases List.mem_cons.1 hj with rfl | hj
      · exact Nat.le_refl _
      · exact Nat.le_trans hc (h j hj)
    · refine ⟨i, List.mem_cons_of_mem _ hi, fun j hj => ?_⟩
      rcases List.mem_cons.1 hj with rfl | hj
      · omega
      · exact h j hj

theorem drawOk_apart {ops : Array Oper} (h : drawOk ops = true) {i j : Nat} {o x : Oper} (ho : ops[i]? = some o) (hx : ops[j]? = some x) (hji : j < i) : reach ops j i = true ∨ x.apart ops o = true := by
  have hi : i < ops.size := (Array.getElem?_eq_some_iff.1 ho).1
  unfold drawOk at h
  simp only [Bool.and_eq_true] at h
  have := List.all_eq_true.1 h.1 i (by simpa using hi)
  simp only [ho, Bool.and_eq_true] at this
  have := List.all_eq_true.1 this.2 j (by simpa using hji)
  simpa [hx, reach] using this

/-! ### steps that commute -/
theorem app_at (ob : Nat → Option Obj) : ∀ (c : List (Nat × Option Obj)) (n : Nat), n ∉ c.map (·.1) → app ob c n = ob n
  | [], n, _ => rfl
  | (k, o) :: c, n, h => by
    simp only [List.map_cons, List.mem_cons, not_or] at h
    show app (upd ob k o) c n = ob n
    rw [app_at (upd ob k o) c n h.2]
    simp [upd, h.1]
theorem app_mem (n : Nat) : ∀ (c : List (Nat × Option Obj)) (ob ob' : Nat → Option Obj), n ∈ c.map (·.1) → app ob c n = app ob' c n
  | [], _, _, h => by simp at h
  | (k, o) :: c, ob, ob', h => by
    show app (upd ob k o) c n = app (upd ob' k o) c n
    by_cases hn : n ∈ c.map (·.1)
    · exact app_mem n c _ _ hn
    · have : n = k := by simpa [hn] using h
      subst this
      rw [app_at _ c n hn, app_at _ c n hn]
      simp [upd]
theorem app_comm (ob : Nat → Option Obj) (c d : List (Nat × Option Obj)) (h : ∀ n ∈ c.map (·.1), n ∉ d.map (·.1)) : app (app ob c) d = app (app ob d) c := by
  funext n
  by_cases hc : n ∈ c.map (·.1)
  · rw [app_at _ d n (h n hc)]
    exact app_mem n c _ _ hc
  · rw [app_at (app ob d) c n hc]
    by_cases hd : n ∈ d.map (·.1)
    · exact app_mem n d _ _ hd
    · rw [app_at _ d n hd, app_at _ d n hd, app_at _ c n hc]

def nxt (as : AS) (o : Oper) (r : AV) (ch : List (Nat × Option Obj)) : AS := (as.chg ch).put o.dst r

theorem nxt_N (as : AS) (o : Oper) (r : AV) (ch : List (Nat × Option Obj)) : (nxt as o r ch).N = as.N := by
  unfold nxt AS.put
  split
  · split <;> rfl
  · rfl
theorem nxt_ob (as : AS) (o : Oper) (r : AV) (ch : List (Nat × Option Obj)) : (nxt as o r ch).ob = app as.ob ch := by
  unfold nxt
  rw [put_ob]; rfl
theorem nxt_tm (as : AS) (o : Oper) (r : AV) (ch : List (Nat × Option Obj)) (t : Tmp) (h : o.dst ≠ some t) : (nxt as o r ch).tm t = as.tm t := by
  unfold nxt AS.put
  split
  · rename_i d hd
    split
    · have : t ≠ d := fun e => h (by rw [hd, e])
      simp [AS.chg, upd, this]
    · rfl
  · rfl
theorem nxt_comm (as : AS) {o o' : Oper} {r r' : AV} {ch ch' : List (Nat × Option Obj)} (hd : ∀ d, o.dst = some d → o'.dst ≠ some d) (hc : ∀ n ∈ ch.map (·.1), n ∉ ch'.map (·.1)) : nxt (nxt as o r ch) o' r' ch' = nxt (nxt as o' r' ch') o r ch := by
  have hob : (nxt (nxt as o r ch) o' r' ch').ob = (nxt (nxt as o' r' ch') o r ch).ob := by
    rw [nxt_ob, nxt_ob, nxt_ob, nxt_ob, app_comm _ _ _ hc]
  have hN : (nxt (nxt as o r ch) o' r' ch').N = (nxt (nxt as o' r' ch') o r ch).N := by
    rw [nxt_N, nxt_N, nxt_N, nxt_N]
  have htm : (nxt (nxt as o r ch) o' r' ch').tm = (nxt (nxt as o' r' ch') o r ch).tm := by
    funext t
    by_cases h1 : o.dst = some t
    · have h2 := hd t h1
      rw [nxt_tm _ _ _ _ _ h2]
      unfold nxt AS.put
      rw [h1]
      simp only
      have e : ((((as.chg ch').put o'.dst r').chg ch).N) = as.N := by
        have := nxt_N as o' r' ch'
        exact this
      have e' : (as.chg ch).N = as.N := rfl
      unfold AS.put at e
      rw [e, e']
      split
      · simp [AS.chg, upd]
      · have := nxt_tm as o' r' ch' t h2
        exact this.symm
    · rw [nxt_tm (nxt as o' r' ch') o r ch t h1]
      by_cases h2 : o'.dst = some t
      · unfold nxt AS.put
        rw [h2]
        simp only
        have e : ((((as.chg ch).put o.dst r).chg ch').N) = as.N := nxt_N as o r ch
        have e' : (as.chg ch').N = as.N := rfl
        unfold AS.put at e
        rw [e, e']
        split
        · simp [AS.chg, upd]
        · exact nxt_tm as o r ch t h1
      · rw [nxt_tm _ _ _ _ _ h2, nxt_tm _ _ _ _ _ h1, nxt_tm _ _ _ _ _ h2]
  cases hA : nxt (nxt as o r ch) o' r' ch' with
  | mk tm ob N =>
    cases hB : nxt (nxt as o' r' ch') o r ch with
    | mk tm' ob' N' =>
      rw [hA, hB] at hob hN htm
      simp only at hob hN htm
      subst hob; subst hN; subst htm
      rfl

/-! ### the run in the text's order, and in another -/
/-- Is the operation wanted? -/
def aWant (ops : Array Oper) (as : AS) (o : Oper) : Option Bool := match o.guard with
  | none => some true
  | some (j, want) => match gdst ops j with
    | none => none
    | some t => match as.tm t with
      | .v (.bool b) => some (b == want)
      | .v (.tuple _) => some false
      | _ => none

def GS (P : Program) (eq : TypeId → Option (List Value)) (ops : Array Oper) (k0 : Nat) (Φ : Nat → List Nat × List Nat) (i : Nat) (o : Oper) (as : AS) (r : AV) (ch : List (Nat × Option Obj)) : Prop :=
  ops[i]? = some o ∧ ((aWant ops as o = some true ∧ Step P eq (k0 + 8 * i) o as r ch ∧ Φ i = (fpt as o.op, ch.map (·.1))) ∨ (aWant ops as o = some false ∧ r = .v undef ∧ ch = [] ∧ Φ i = ([], [])))

def RunI (P : Program) (eq : TypeId → Option (List Value)) (ops : Array Oper) (k0 : Nat) (Φ : Nat → List Nat × List Nat) : List Nat → AS → AS → Prop
  | [], as, as' => as' = as
  | i :: l, as, as' => ∃ o r ch, GS P eq ops k0 Φ i o as r ch ∧ RunI P eq ops k0 Φ l (nxt as o r ch) as'

def Ind (ops : Array Oper) (Φ : Nat → List Nat × List Nat) (j i : Nat) : Prop :=
  ∀ x o, ops[j]? = some x → ops[i]? = some o → x.apart ops o = true ∧ (∀ n ∈ (Φ j).2, n ∉ (Φ i).1 ∧ n ∉ (Φ i).2) ∧ ∀ n ∈ (Φ i).2, n ∉ (Φ j).1

section
variable {P : Program} {eq : TypeId → Option (List Value)} {ops : Array Oper} {k0 : Nat} {Φ : Nat → List Nat × List Nat}

theorem ev_eq {as as' : AS} {x : Operand} (h : ∀ t, x = .tmp t → as'.tm t = as.tm t) : ev as' x = ev as x := by
  cases x with
  | tmp t => exact h t rfl
  | _ => rfl

theorem looks_op {o : Oper} {x : Operand} {t : Tmp} (hx : x ∈ o.op.operands.toList) (ht : x = .tmp t) : t ∈ o.looksAt ops := by
  subst ht
  unfold Oper.looksAt
  exact List.mem_append_left _ (List.mem_filterMap.2 ⟨_, hx, rfl⟩)
theorem looks_guard {o : Oper} {j t : Nat} {want : Bool} (hg : o.guard = some (j, want)) (hd : gdst ops j = some t) : t ∈ o.looksAt ops := by
  unfold Oper.looksAt
  apply List.mem_append_right
  rw [hg]
  unfold gdst at hd
  simp [hd]

theorem GS.congr {i : Nat} {o : Oper} {as as' : AS} {r : AV} {ch : List (Nat × Option Obj)} (h : GS P eq ops k0 Φ i o as r ch) (ht : ∀ t ∈ o.looksAt ops, as'.tm t = as.tm t) (ho : ∀ n ∈ (Φ i).1, as'.ob n = as.ob n) : GS P eq ops k0 Φ i o as' r ch := by
  obtain ⟨hi, h⟩ := h
  have hw : aWant ops as' o = aWant ops as o := by
    unfold aWant
    cases hg : o.guard with
    | none => rfl
    | some p =>
      obtain ⟨j, want⟩ := p
      simp only
      cases hd : gdst ops j with
      | none => rfl
      | some t => simp only [ht t (looks_guard hg hd)]
  have hev : ∀ x ∈ o.op.operands.toList, ev as' x = ev as x := fun x hx => ev_eq fun t e => ht t (looks_op hx e)
  refine ⟨hi, ?_⟩
  rcases h with ⟨h1, h2, h3⟩ | ⟨h1, h2⟩
  · exact .inl ⟨by rw [hw]; exact h1, h2.congr hev (fun n hn => ho n (by rw [h3]; exact hn)), by rw [fpt_congr hev (fun n hn => by rw [ho n (by rw [h3]; exact hn)])]; exact h3⟩
  · exact .inr ⟨by rw [hw]; exact h1, h2⟩

theorem GS.keys {i : Nat} {o : Oper} {as : AS} {r : AV} {ch : List (Nat × Option Obj)} (h : GS P eq ops k0 Φ i o as r ch) : (Φ i).2 = ch.map (·.1) := by
  rcases h.2 with ⟨_, _, h3⟩ | ⟨_, _, h2, h3⟩
  · rw [h3]
  · rw [h3, h2]; rfl

theorem GS.comm {i j : Nat} {x o : Oper} {as : AS} {r r' : AV} {ch ch' : List (Nat × Option Obj)} (hj : GS P eq ops k0 Φ j x as r' ch') (hi : GS P eq ops k0 Φ i o (nxt as x r' ch') r ch) (hI : Ind ops Φ j i) :
    GS P eq ops k0 Φ i o as r ch ∧ GS P eq ops k0 Φ j x (nxt as o r ch) r' ch' ∧ nxt (nxt as o r ch) x r' ch' = nxt (nxt as x r' ch') o r ch := by
  obtain ⟨hap, h1, h2⟩ := hI x o hj.1 hi.1
  obtain ⟨a1, a2, a3⟩ := Oper.apart_spec hap
  have kj := hj.keys
  have ki := hi.keys
  refine ⟨?_, ?_, ?_⟩
  · refine hi.congr (fun t ht => (nxt_tm _ _ _ _ _ fun e => a1 t e ht).symm) (fun n hn => ?_)
    rw [nxt_ob, app_at _ _ _ fun hm => (h1 n (by rw [kj]; exact hm)).1 hn]
  · refine hj.congr (fun t ht => nxt_tm _ _ _ _ _ fun e => a3 t e ht) (fun n hn => ?_)
    rw [nxt_ob, app_at _ _ _ fun hm => h2 n (by rw [ki]; exact hm) hn]
  · exact nxt_comm as (fun d hd => a2 d |> fun h => fun e => h e hd) (fun n hn hm => (h1 n (by rw [kj]; exact hm)).2 (by rw [ki]; exact hn))

theorem RunI.pull {i : Nat} : ∀ {R1 R2 : List Nat} {as as' : AS}, RunI P eq ops k0 Φ (R1 ++ i :: R2) as as' → (∀ j ∈ R1, Ind ops Φ j i) → ∃ o r ch, GS P eq ops k0 Φ i o as r ch ∧ RunI P eq ops k0 Φ (R1 ++ R2) (nxt as o r ch) as'
  | [], R2, as, as', h, _ => h
  | j :: R1, R2, as, as', h, hI => by
    obtain ⟨x, r', ch', hj, hrest⟩ := h
    obtain ⟨o, r, ch, hi, hrun⟩ := RunI.pull hrest fun q hq => hI q (by simp [hq])
    obtain ⟨g1, g2, g3⟩ := GS.comm hj hi (hI j (by simp))
    exact ⟨o, r, ch, g1, x, r', ch', g2, by rw [g3]; exact hrun⟩

theorem sorted_lt {R1 R2 : List Nat} {i : Nat} (h : (R1 ++ i :: R2).Pairwise (· < ·)) : (∀ j ∈ R1, j < i) ∧ (∀ j ∈ R2, i < j) ∧ (R1 ++ R2).Pairwise (· < ·) := by
  rw [List.pairwise_append] at h
  obtain ⟨h1, h2, h3⟩ := h
  rw [List.pairwise_cons] at h2
  refine ⟨fun j hj => h3 j hj i (by simp), h2.1, ?_⟩
  rw [List.pairwise_append]
  exact ⟨h1, h2.2, fun a ha b hb => h3 a ha b (by simp [hb])⟩

theorem GS.sound {i : Nat} {o : Oper} {as : AS} {r : AV} {ch : List (Nat × Option Obj)} (h : GS P eq ops k0 Φ i o as r ch) {m : Mem} {w : World} {a : Act} (hR : Rel m w as a) (hk : ∀ n, k0 + 8 * i ≤ n → n < k0 + 8 * i + 8 → m.β n = none) {s : Nat} {ro : Option Nat} {n : Nat} (hd : Aux s ro w m as.ob a.defers) {Q : Exit → Act → World → Prop} {next : Act → World → Prop}
    (hnext : ∀ m' w' a', Rel m' w' (nxt as o r ch) a' → Ext w m as.ob w' m' (nxt as o r ch).ob → (∀ n, ¬ (k0 + 8 * i ≤ n ∧ n < k0 + 8 * i + 8) → m'.β n = m.β n) → Aux s ro w' m' (nxt as o r ch).ob a'.defers → next a' w') :
    if Region.wanted o (yielded ops a.tmps) then o.wpIn (W ro) n P a w next Q else (∀ f, o.about P w a.eval = some f → (W ro).fn f) ∧ next (a.put o.dst undef) w := by
  obtain ⟨hi, h⟩ := h
  rcases h with ⟨h1, h2, _⟩ | ⟨h1, rfl, rfl, _⟩
  · have hw : Region.wanted o (yielded ops a.tmps) = true := by
      unfold aWant at h1
      split at h1
      · rename_i hg; simp [Region.wanted, hg]
      · rename_i j want hg
        split at h1
        · cases h1
        · rename_i t ht
          split at h1
          · rename_i b hb
            rw [wanted_of hR hg ht hb]
            simpa using h1
          · cases h1
          · cases h1
    rw [if_pos hw]
    exact h2.sound hR hk fun u w' m' hr hm he hb => hnext m' w' _ (put_rep hR hm he hr o.dst) (by rw [nxt_ob]; exact he) hb (by rw [put_defers, nxt_ob]; exact hd.ext he)
  · have hw : Region.wanted o (yielded ops a.tmps) = false := by
      unfold aWant at h1
      split at h1
      · cases h1
      · rename_i j want hg
        split at h1
        · cases h1
        · rename_i t ht
          split at h1
          · rename_i b hb
            rw [wanted_of hR hg ht hb]
            simpa using h1
          · rename_i x hx
            exact unwanted_of hR hg ht hx
          · cases h1
    rw [if_neg (by simp [hw])]
    exact ⟨fun _ _ => trivial, hnext m w _ (put_rel hR o.dst (.v _)) (by rw [nxt_ob]; exact Ext.refl _ _ _) (fun _ _ => rfl) (by rw [put_defers, nxt_ob]; exact hd)⟩

/-- Every order. -/
theorem draw_go {s : Nat} {ro : Option Nat} {n : Nat} {Q : Exit → Act → World → Prop} (hok : drawOk ops = true) (hInd : ∀ j i, j < i → i < ops.size → reach ops j i = true ∨ Ind ops Φ j i) {as' : AS} (md : Region.Mode) :
    ∀ (fuel t : Nat) (listed : Array Bool) (R : List Nat) (as : AS) (m : Mem) (w : World) (a : Act), R.length ≤ fuel → listed.size = ops.size → R.Pairwise (· < ·) → (∀ i, i ∈ R ↔ i < ops.size ∧ listed.getD i true = false) →
      (∀ x o, (x < ops.size ∧ listed.getD x true = true) → ops[x]? = some o → ∀ e ∈ o.after, Region.binds .any e = true → e.on < ops.size ∧ listed.getD e.on true = true) →
      RunI P eq ops k0 Φ R as as' → Rel m w as a → (∀ i ∈ R, ∀ q, k0 + 8 * i ≤ q → q < k0 + 8 * i + 8 → m.β q = none) → Fr (k0 + 8 * ops.size) m → Aux s ro w m as.ob a.defers →
      (∀ m' w' a', Lands s ro m w as.ob (k0 + 8 * ops.size) as' m' w' a' → Q .normal a' w') → wpOpsIn (W ro) n P ops Q (Region.linearise.go md ops fuel t listed []) a w := by
  intro fuel
  have fin : ∀ (R : List Nat) (as : AS) (m : Mem) (w : World) (a : Act), R = [] → RunI P eq ops k0 Φ R as as' → Rel m w as a → Fr (k0 + 8 * ops.size) m → Aux s ro w m as.ob a.defers → (∀ m' w' a', Lands s ro m w as.ob (k0 + 8 * ops.size) as' m' w' a' → Q .normal a' w') → Q .normal a w := by
    intro R as m w a hR hrun hrel hfr hd hQ
    subst hR
    cases hrun
    exact hQ m w a ⟨hrel, hfr, Ext.refl _ _ _, hd⟩
  induction fuel with
  | zero =>
    intro t listed R as m w a hlen _ _ _ _ hrun hrel _ hfr hd hQ
    simpa [Region.linearise.go, wpOpsIn] using fin R as m w a (List.eq_nil_of_length_eq_zero (by omega)) hrun hrel hfr hd hQ
  | succ fuel ih =>
    intro t listed R as m w a hlen hsz hsort hmem hclosed hrun hrel hk hfr hd hQ
    simp only [Region.linearise.go]
    change wpOpsIn (W ro) n P ops Q (match (Region.ready md ops listed)[t % (Region.ready md ops listed).length]? with
      | some i => Region.linearise.go md ops fuel (t / (Region.ready md ops listed).length) (listed.setIfInBounds i true) [i]
      | none => [].reverse) a w
    have hbind : ∀ e : Edge, Region.binds .any e = true → Region.binds md e = true := by
      intro e he
      unfold Region.binds at he ⊢
      split <;> simp_all
    have hready : ∀ i, i ∈ Region.ready md ops listed ↔ i < ops.size ∧ listed.getD i true = false ∧ ∃ o, ops[i]? = some o ∧ ∀ e ∈ o.after, Region.binds md e = true → listed.getD e.on false = true := by
      intro i
      unfold Region.ready
      simp only [List.mem_filter, List.mem_range, Bool.and_eq_true, Bool.not_eq_true']
      constructor
      · rintro ⟨h1, h2, h3⟩
        have ho : ops[i]? = some ops[i] := Array.getElem?_eq_getElem h1
        rw [ho] at h3
        simp only [Option.map_some, Option.getD_some, Array.all_eq_true_iff_forall_mem, Bool.or_eq_true, Bool.not_eq_true'] at h3
        refine ⟨h1, h2, _, ho, fun e he hb => ?_⟩
        rcases h3 e he with h | h
        · rw [hb] at h; cases h
        · exact h
      · rintro ⟨h1, h2, o, ho, h3⟩
        refine ⟨h1, h2, ?_⟩
        rw [ho]
        simp only [Option.map_some, Option.getD_some, Array.all_eq_true_iff_forall_mem, Bool.or_eq_true, Bool.not_eq_true']
        intro e he
        cases hb : Region.binds md e with
        | false => exact .inl rfl
        | true => exact .inr (h3 e he hb)
    cases hi : (Region.ready md ops listed)[t % (Region.ready md ops listed).length]? with
    | none =>
      have hnil : Region.ready md ops listed = [] := by
        cases hr : Region.ready md ops listed with
        | nil => rfl
        | cons x xs =>
          rw [hr] at hi
          have hlt : t % (x :: xs).length < (x :: xs).length := Nat.mod_lt _ (by simp)
          rw [List.getElem?_eq_none_iff] at hi
          omega
      have hR : R = [] := by
        by_cases hRn : R = []
        · exact hRn
        · exfalso
          obtain ⟨f, hf⟩ := drawOk_rank hok md
          obtain ⟨i0, hi0, hmin⟩ := exists_min f hRn
          have h0 := (hmem i0).1 hi0
          have ho : ops[i0]? = some ops[i0] := Array.getElem?_eq_getElem h0.1
          have : i0 ∈ Region.ready md ops listed := by
            refine (hready i0).2 ⟨h0.1, h0.2, _, ho, fun e he hbe => ?_⟩
            obtain ⟨hes, hlt⟩ := hf i0 _ ho e he hbe
            have hnot : e.on ∉ R := fun hm => by
              have := hmin _ hm
              omega
            have hel : e.on < listed.size := by omega
            have : listed.getD e.on true = true := by
              cases hb : listed.getD e.on true with
              | true => rfl
              | false => exact absurd ((hmem e.on).2 ⟨by omega, hb⟩) hnot
            simpa [Array.getD, hel] using this
          rw [hnil] at this
          simp at this
      simpa [wpOpsIn] using fin R as m w a hR hrun hrel hfr hd hQ
    | some i =>
      simp only []
      rw [linearise_go_acc, List.reverse_singleton, List.singleton_append]
      obtain ⟨h1, h2, o, ho, h3⟩ := (hready i).1 (List.mem_of_getElem? hi)
      have hiR : i ∈ R := (hmem i).2 ⟨h1, h2⟩
      obtain ⟨R1, R2, rfl⟩ := List.append_of_mem hiR
      obtain ⟨s1, s2, s3⟩ := sorted_lt hsort
      have gd2 : ∀ x, x < ops.size → listed.getD x false = listed.getD x true := fun x hx => by
        have : x < listed.size := by omega
        simp [Array.getD, this]
      have h3' : ∀ e ∈ o.after, Region.binds .any e = true → e.on < ops.size ∧ listed.getD e.on true = true := fun e he hb => by
        have hlt := drawOk_back hok ho e he hb
        have := h3 e he (hbind e hb)
        rw [gd2 _ (by omega)] at this
        exact ⟨by omega, this⟩
      have hInd' : ∀ j ∈ R1, Ind ops Φ j i := fun j hj => by
        rcases hInd j i (s1 j hj) h1 with h | h
        · exfalso
          have := reach_closed (S := fun x => x < ops.size ∧ listed.getD x true = true) hclosed i j (fun o' ho' => by rw [ho] at ho'; cases ho'; exact h3') h
          have hj' := (hmem j).1 (by simp [hj])
          rw [hj'.2] at this
          exact absurd this.2 (by simp)
        · exact h
      obtain ⟨o', r, ch, hg, hrest⟩ := hrun.pull hInd'
      have hoo : o' = o := by have := hg.1; rw [ho] at this; exact (Option.some.inj this).symm
      subst hoo
      have hls : ∀ x, (listed.setIfInBounds i true).getD x true = if x = i then true else listed.getD x true := fun x => by
        rw [Array.getD_eq_getD_getElem?, Array.getElem?_setIfInBounds]
        by_cases hx : i = x
        · subst hx
          rw [if_pos rfl, if_pos rfl, if_pos (by omega)]
          rfl
        · rw [if_neg hx, if_neg (Ne.symm hx), ← Array.getD_eq_getD_getElem?]
      unfold wpOpsIn
      rw [ho]
      simp only
      refine hg.sound hrel (hk i hiR) hd fun m' w' a' hrel' he hb hd' => ?_
      have hlands : ∀ m2 w2 a2, Lands s ro m' w' (nxt as o' r ch).ob (k0 + 8 * ops.size) as' m2 w2 a2 → Q .normal a2 w2 := fun m2 w2 a2 hL => hQ m2 w2 a2 ⟨hL.1, hL.2.1, he.trans hL.2.2.1, hL.2.2.2⟩
      refine ih _ (listed.setIfInBounds i true) (R1 ++ R2) (nxt as o' r ch) m' w' a' (by simp at hlen ⊢; omega) (by simpa using hsz) s3 (fun x => ?_) (fun x o2 hx ho2 e he2 hb2 => ?_) hrest hrel' (fun x hx q hq1 hq2 => ?_) (fun q hq => ?_) hd' hlands
      · rw [hls]
        constructor
        · intro hx
          have hx' := (hmem x).1 (by rcases List.mem_append.1 hx with h | h <;> simp [h])
          have hne : x ≠ i := by
            rcases List.mem_append.1 hx with h | h
            · have := s1 x h; omega
            · have := s2 x h; omega
          rw [if_neg hne]
          exact hx'
        · rintro ⟨hx1, hx2⟩
          split at hx2
          · cases hx2
          · rename_i hne
            have := (hmem x).2 ⟨hx1, hx2⟩
            rcases List.mem_append.1 this with h | h
            · exact List.mem_append_left _ h
            · rcases List.mem_cons.1 h with h | h
              · exact absurd h hne
              · exact List.mem_append_right _ h
      · rw [hls]
        rw [hls] at hx
        by_cases hxi : x = i
        · subst hxi
          rw [ho] at ho2
          cases ho2
          have := h3' e he2 hb2
          refine ⟨this.1, ?_⟩
          split
          · rfl
          · exact this.2
        · rw [if_neg hxi] at hx
          have := hclosed x o2 hx ho2 e he2 hb2
          refine ⟨this.1, ?_⟩
          split
          · rfl
          · exact this.2
      · have hxR : x ∈ R1 ++ i :: R2 := by rcases List.mem_append.1 hx with h | h <;> simp [h]
        have hne : x ≠ i := by
          rcases List.mem_append.1 hx with h | h
          · have := s1 x h; omega
          · have := s2 x h; omega
        rw [hb q (by omega)]
        exact hk x hxR q hq1 hq2
      · rw [hb q (by omega)]
        exact hfr q hq

end
end Go.Proofs.YtciegkpjenjaeaaDoor.Ab
namespace Go.Proofs.YtciegkpjenjaeaaDoor.Ab
open Go Go.RowKit
set_option linter.unusedSimpArgs false
set_option linter.unusedVariables false

/-! ### regions whose order is drawn -/
def dis (a b : List Nat) : Bool := a.all fun x => !b.contains x
def chk (ops : Array Oper) (i : Nat) (fp keys : List Nat) : Nat → List (List Nat × List Nat) → Prop
  | _, [] => True
  | j, (f, c) :: l => ((dis c fp && dis c keys && dis keys f) = true ∨ reach ops j i = true) ∧ chk ops i fp keys (j + 1) l

def vcOpsD (P : Program) (eq : TypeId → Option (List Value)) (ops : Array Oper) : Nat → List Oper → List (List Nat × List Nat) → AS → (AS → Prop) → Prop
  | _, [], _, as, K => K as
  | k, o :: l, log, as, K => match o.guard with
    | none => vcOp P eq k as o fun ch r => chk ops log.length (fpt as o.op) (ch.map (·.1)) 0 log ∧ vcOpsD P eq ops (k + 8) l (log ++ [(fpt as o.op, ch.map (·.1))]) ((as.chg ch).put o.dst r) K
    | some (j, want) => match gdst ops j with
      | none => False
      | some t => onBool (as.tm t) (fun b => (b = want → vcOp P eq k (as.know t want) o fun ch r => chk ops log.length (fpt (as.know t want) o.op) (ch.map (·.1)) 0 log ∧ vcOpsD P eq ops (k + 8) l (log ++ [(fpt (as.know t want) o.op, ch.map (·.1))]) (((as.know t want).chg ch).put o.dst r) K) ∧
            (b = !want → vcOpsD P eq ops (k + 8) l (log ++ [([], [])]) ((as.know t !want).put o.dst (.v undef)) K))
          (vcOpsD P eq ops (k + 8) l (log ++ [([], [])]) (as.put o.dst (.v undef)) K)

section
variable {P : Program} {eq : TypeId → Option (List Value)} {ops : Array Oper} {k0 : Nat}

theorem know_eq {as : AS} {t : Tmp} {b : Bool} (h : as.tm t = .v (.bool b)) : as.know t b = as := by
  unfold AS.know upd
  have : (fun i => if i = t then AV.v (Value.bool b) else as.tm i) = as.tm := by
    funext i
    split
    · rename_i h'; rw [h', h]
    · rfl
  rw [this]

theorem chk_get {i : Nat} {fp keys : List Nat} : ∀ {log : List (List Nat × List Nat)} {j0 : Nat}, chk ops i fp keys j0 log → ∀ j q, log[j]? = some q → ((∀ n ∈ q.2, n ∉ fp ∧ n ∉ keys) ∧ ∀ n ∈ keys, n ∉ q.1) ∨ reach ops (j0 + j) i = true
  | [], j0, _, j, q, h => by simp at h
  | (f, c) :: l, j0, h, j, q, hq => by
    cases j with
    | zero =>
      simp at hq
      subst hq
      rcases h.1 with h1 | h1
      · simp only [Bool.and_eq_true, dis, List.all_eq_true, Bool.not_eq_true', List.contains_eq_mem, decide_eq_false_iff_not] at h1
        exact .inl ⟨fun n hn => ⟨h1.1.1 n hn, h1.1.2 n hn⟩, fun n hn => h1.2 n hn⟩
      · exact .inr h1
    | succ j =>
      have := chk_get h.2 j q (by simpa using hq)
      have e : j0 + (j + 1) = j0 + 1 + j := by omega
      rw [e]
      exact this

theorem vcOpsD_run {K : AS → Prop} : ∀ (l : List Oper) (i : Nat) (log : List (List Nat × List Nat)) (as : AS), ops.toList.drop i = l → log.length = i → vcOpsD P eq ops (k0 + 8 * i) l log as K →
    ∃ rest as', rest.length = l.length ∧ RunI P eq ops k0 (fun j => (log ++ rest).getD j ([], [])) (List.range' i l.length) as as' ∧ K as' ∧
      ∀ q j, i ≤ q → q < i + l.length → j < q → ((∀ n ∈ ((log ++ rest).getD j ([], [])).2, n ∉ ((log ++ rest).getD q ([], [])).1 ∧ n ∉ ((log ++ rest).getD q ([], [])).2) ∧ ∀ n ∈ ((log ++ rest).getD q ([], [])).2, n ∉ ((log ++ rest).getD j ([], [])).1) ∨ reach ops j q = true
  | [], i, log, as, _, _, h => ⟨[], as, rfl, rfl, h, fun q j h1 h2 _ => by simp at h2; omega⟩
  | o :: l, i, log, as, hl, hlog, h => by
    have hi : ops[i]? = some o := by
      have : (ops.toList.drop i)[0]? = some o := by rw [hl]; rfl
      rw [List.getElem?_drop] at this
      simpa using this
    have hl' : ops.toList.drop (i + 1) = l := by rw [← List.drop_drop, hl]; rfl
    have hk : k0 + 8 * i + 8 = k0 + 8 * (i + 1) := by omega
    -- one step, and the rest
    have go : ∀ (r : AV) (ch : List (Nat × Option Obj)) (fp : List Nat), (∀ Φ : Nat → List Nat × List Nat, Φ i = (fp, ch.map (·.1)) → GS P eq ops k0 Φ i o as r ch) → chk ops log.length fp (ch.map (·.1)) 0 log →
        vcOpsD P eq ops (k0 + 8 * (i + 1)) l (log ++ [(fp, ch.map (·.1))]) (nxt as o r ch) K →
        ∃ rest as', rest.length = (o :: l).length ∧ RunI P eq ops k0 (fun j => (log ++ rest).getD j ([], [])) (List.range' i (o :: l).length) as as' ∧ K as' ∧
          ∀ q j, i ≤ q → q < i + (o :: l).length → j < q → ((∀ n ∈ ((log ++ rest).getD j ([], [])).2, n ∉ ((log ++ rest).getD q ([], [])).1 ∧ n ∉ ((log ++ rest).getD q ([], [])).2) ∧ ∀ n ∈ ((log ++ rest).getD q ([], [])).2, n ∉ ((log ++ rest).getD j ([], [])).1) ∨ reach ops j q = true := by
      intro r ch fp hg hchk hv
      obtain ⟨rest, as', h1, h2, h3, h4⟩ := vcOpsD_run l (i + 1) (log ++ [(fp, ch.map (·.1))]) (nxt as o r ch) hl' (by simp [hlog]) hv
      have eL : (log ++ [(fp, ch.map (·.1))]) ++ rest = log ++ ((fp, ch.map (·.1)) :: rest) := by simp
      rw [eL] at h2 h4
      have hΦ : (log ++ ((fp, ch.map (·.1)) :: rest)).getD i ([], []) = (fp, ch.map (·.1)) := by
        rw [List.getD_eq_getElem?_getD, List.getElem?_append_right (by omega), hlog, Nat.sub_self]
        rfl
      refine ⟨(fp, ch.map (·.1)) :: rest, as', by simp [h1], ?_, h3, fun q j hq1 hq2 hj => ?_⟩
      · rw [List.length_cons, List.range'_succ]
        exact ⟨o, r, ch, hg _ hΦ, h2⟩
      · by_cases hqi : q = i
        · subst hqi
          rw [hΦ]
          have hjl : j < log.length := by omega
          have hjd : (log ++ ((fp, ch.map (·.1)) :: rest)).getD j ([], []) = log[j] := by
            rw [List.getD_eq_getElem?_getD, List.getElem?_append_left hjl, List.getElem?_eq_getElem hjl]
            rfl
          rw [hjd]
          have := chk_get hchk j log[j] (List.getElem?_eq_getElem hjl)
          rw [Nat.zero_add, hlog] at this
          exact this
        · exact h4 q j (by omega) (by rw [List.length_cons] at hq2; omega) hj
    have chk_nil : ∀ (log : List (List Nat × List Nat)) (i j0 : Nat), chk ops i [] [] j0 log := by
      intro log
      induction log with
      | nil => intro i j0; trivial
      | cons q log ih =>
        intro i j0
        obtain ⟨f, c⟩ := q
        refine ⟨.inl ?_, ih i (j0 + 1)⟩
        simp [dis]
    have goSkip : aWant ops as o = some false → vcOpsD P eq ops (k0 + 8 * (i + 1)) l (log ++ [([], [])]) (as.put o.dst (.v undef)) K → _ := fun hw hv =>
      go (.v undef) [] [] (fun Φ hΦ => ⟨hi, .inr ⟨hw, rfl, rfl, hΦ⟩⟩) (chk_nil _ _ _) hv
    unfold vcOpsD at h
    split at h
    · rename_i hg
      obtain ⟨r, ch, hs, hc, hv'⟩ := vcOp_step h
      rw [hk] at hv'
      exact go r ch (fpt as o.op) (fun Φ hΦ => ⟨hi, .inl ⟨by simp [aWant, hg], hs, hΦ⟩⟩) hc hv'
    · rename_i j want hg
      split at h
      · exact h.elim
      · rename_i t ht
        unfold onBool at h
        split at h
        · rename_i b hb
          by_cases hbw : b = want
          · have h1 := h.1 hbw
            rw [know_eq (by rw [hb, hbw])] at h1
            obtain ⟨r, ch, hs, hc, hv'⟩ := vcOp_step h1
            rw [hk] at hv'
            exact go r ch (fpt as o.op) (fun Φ hΦ => ⟨hi, .inl ⟨by simp [aWant, hg, ht, hb, hbw], hs, hΦ⟩⟩) hc hv'
          · have hbn : b = !want := by cases b <;> cases want <;> simp_all
            have h1 := h.2 hbn
            rw [know_eq (by rw [hb, hbn]), hk] at h1
            exact goSkip (by simp [aWant, hg, ht, hb, hbw]) h1
        · rename_i x hx
          rw [hk] at h
          exact goSkip (by simp [aWant, hg, ht, hx]) h
        · exact h.elim

theorem drew_rel {m : Mem} {w : World} {as : AS} {a : Act} {d : Nat} (hR : Rel m w as a) : Rel m { w with drawn := d } as a ∧ Ext w m as.ob { w with drawn := d } m as.ob := by
  refine ⟨⟨⟨⟨hR.mr.imm.lt, hR.mr.imm.tab.ext (fun _ h => h) (fun _ _ => rfl)⟩, fun n o ho => ?_, hR.mr.apart⟩, hR.size, fun t => (hR.tm t).ext (fun _ h => h) (fun _ _ => rfl) (fun _ _ h => h)⟩, ?_⟩
  · obtain ⟨v, hv, hat⟩ := hR.mr.obs n o ho
    refine ⟨v, hv, ?_⟩
    exact hat.of_ext (ob := as.ob) (ob' := as.ob) (w' := { w with drawn := d }) (m' := m) ⟨fun _ h => h, fun _ h => .inl h, fun _ _ _ => rfl, fun _ _ => rfl, fun _ _ h => h, fun _ h => .inl h, rfl, rfl, rfl, Nat.le_refl _⟩ rfl (fun _ _ => rfl) (fun _ _ _ h => h)
  · exact ⟨fun _ h => h, fun _ h => .inl h, fun _ _ _ => rfl, fun _ _ => rfl, fun _ _ h => h, fun _ h => .inl h, rfl, rfl, rfl, Nat.le_refl _⟩

theorem draw_sound {s : Nat} {ro : Option Nat} {n id k : Nat} {as : AS} {K : AS → Prop} (hok : drawOk ops = true) (h : vcOpsD P eq ops k ops.toList [] as K) {m : Mem} {w : World} {a : Act} (hR : Rel m w as a) (hk : Fr k m) (hd : Aux s ro w m as.ob a.defers) {Q : Exit → Act → World → Prop}
    (hQ : ∀ as' m' w' a', K as' → Lands s ro m w as.ob (k + 8 * ops.size) as' m' w' a' → Q .normal a' w') : (Code.region id ops true).wpIn (W ro) n P Q a w := by
  obtain ⟨rest, as', h1, h2, h3, h4⟩ := vcOpsD_run (k0 := k) (eq := eq) ops.toList 0 [] as rfl rfl (by simpa using h)
  refine wpIn_region_draw fun t => ?_
  obtain ⟨hR', hE'⟩ := drew_rel (d := w.drawn + 1) hR
  have hInd : ∀ j i, j < i → i < ops.size → reach ops j i = true ∨ Ind ops (fun j => ([] ++ rest).getD j ([], [])) j i := fun j i hji hi => by
    rcases h4 i j (by omega) (by simpa using hi) hji with h5 | h5
    · have ho : ops[i]? = some ops[i] := Array.getElem?_eq_getElem hi
      have hx : ops[j]? = some (ops[j]'(by omega)) := Array.getElem?_eq_getElem (by omega)
      rcases drawOk_apart hok ho hx hji with h6 | h6
      · exact .inl h6
      · refine .inr fun x o hx' ho' => ?_
        rw [hx] at hx'
        rw [ho] at ho'
        cases hx'; cases ho'
        exact ⟨h6, h5⟩
    · exact .inl h5
  have key : ∀ (md : Region.Mode) (t : Nat), wpOpsIn (W ro) n P ops Q (Region.linearise md ops t) a { w with drawn := w.drawn + 1 } := fun md t => by
    unfold Region.linearise
    refine draw_go hok hInd md ops.size t _ (List.range' 0 ops.toList.length) as m _ a (by simp) (by simp) List.pairwise_lt_range' (fun i => ?_) (fun x o hx => ?_) h2 hR' (fun i hi q hq _ => hk q (by omega)) (fun q hq => hk q (by omega)) (hd.ext hE') (fun m' w' a' hL => hQ as' m' w' a' h3 ⟨hL.1, hL.2.1, hE'.trans hL.2.2.1, hL.2.2.2⟩)
    · simp only [List.mem_range'_1, Array.length_toList, Nat.zero_le, Nat.zero_add, true_and]
      constructor
      · intro hi
        exact ⟨hi, by simp [Array.getD, hi]⟩
      · exact fun h => h.1
    · exfalso
      have := hx.2
      simp [Array.getD, hx.1] at this
  unfold Region.schedule
  split
  · exact key _ _
  · exact key _ _

end
end Go.Proofs.YtciegkpjenjaeaaDoor.Ab
namespace Go.Proofs.YtciegkpjenjaeaaDoor.Ab
open Go Go.RowKit
set_option linter.unusedSimpArgs false
set_option linter.unusedVariables false

def getT : List (Nat × AV) → Nat → AV
  | [], _ => .un
  | (i, v) :: l, t => if t = i then v else getT l t
def getO : List (Nat × Obj) → Nat → Option Obj
  | [], _ => none
  | (i, v) :: l, t => if t = i then some v else getO l t
/-- A state as two lists. -/
structure LS where
  tms : List (Nat × AV)
  obs : List (Nat × Obj)
def LS.as (L : LS) (N : Nat) : AS := { tm := getT L.tms, ob := getO L.obs, N := N }

def rn (k : Nat) (σ : List (Option Nat)) (n : Nat) : Option (Option Nat) := if n < k then some (some n) else σ[n - k]?

def tmsOk (ρ : Nat → Option (Option Nat)) (as : AS) : List (Nat × AV) → Prop
  | [] => True
  | (t, v) :: l => eqr ρ (as.tm t) v ∧ tmsOk ρ as l
def obOk (ρ : Nat → Option (Option Nat)) (as : AS) (n : Nat) (o' : Obj) : Prop := match ρ n with
  | some (some q) => match as.ob q with
    | some o => eqO ρ o o'
    | none => False
  | some none => match o' with
    | .row _ _ r fz => r = [] ∧ fz = false
    | _ => False
  | none => False
def obsOk (ρ : Nat → Option (Option Nat)) (as : AS) : List (Nat × Obj) → Prop
  | [] => True
  | (n, o') :: l => obOk ρ as n o' ∧ obsOk ρ as l
/-- The state says what L says, slots from k on standing for the objects σ. -/
def Ent (k : Nat) (as : AS) (σ : List (Option Nat)) (L : LS) : Prop := σ.length ≤ 32 ∧ nodup ((L.obs.map (·.1)).filterMap fun n => (rn k σ n).getD none) = true ∧ tmsOk (rn k σ) as L.tms ∧ obsOk (rn k σ) as L.obs

section
variable {m : Mem} {w w0 : World} {m0 : Mem} {ob0 : Nat → Option Obj} {as : AS} {a : Act} {k : Nat} {σ : List (Option Nat)}

theorem tmsOk_get {ρ : Nat → Option (Option Nat)} : ∀ {l : List (Nat × AV)}, tmsOk ρ as l → ∀ t, eqr ρ (as.tm t) (getT l t)
  | [], _, t => by simp only [getT]; cases as.tm t <;> trivial
  | (i, v) :: l, h, t => by
    simp only [getT]
    split
    · rename_i ht; subst ht; exact h.1
    · exact tmsOk_get h.2 t
theorem obsOk_get {ρ : Nat → Option (Option Nat)} : ∀ {l : List (Nat × Obj)}, obsOk ρ as l → ∀ n o', getO l n = some o' → n ∈ l.map (·.1) ∧ obOk ρ as n o'
  | [], _, n, o', h => by cases h
  | (i, v) :: l, h, n, o', hn => by
    simp only [getO] at hn
    split at hn
    · rename_i hni
      subst hni
      cases hn
      exact ⟨by simp, h.1⟩
    · obtain ⟨h1, h2⟩ := obsOk_get h.2 n o' hn
      exact ⟨by simp [h1], h2⟩
/-- The state said anew. -/
theorem Ent.sound0 {L : LS} (h : Ent k as σ L) (hR : Rel m w as a) : ∃ m', Rel m' w (L.as as.N) a ∧ Fr (k + σ.length) m' ∧ (∀ c v x, eqr (rn k σ) c v → Rep w m c x → Rep w m' v x) ∧ m'.I = m.I ∧ (∀ b, own m' (L.as as.N).ob b → own m as.ob b) ∧ ∀ n, n < k → m'.β n = m.β n := by
  obtain ⟨hlen, hnd, ht, ho⟩ := h
  let m' : Mem := ⟨m.I, fun n => match rn k σ n with
    | some (some q) => m.β q
    | some none => some (.slice none 0 0)
    | none => none, fun n b => ∃ q, rn k σ n = some (some q) ∧ m.φ q b⟩
  have hb : ∀ n n', rn k σ n' = some (some n) → m'.β n' = m.β n := fun n n' h => by
    show (match rn k σ n' with
      | some (some q) => m.β q
      | some none => some (.slice none 0 0)
      | none => none) = m.β n
    rw [h]
  have hz : ∀ n', rn k σ n' = some none → m'.β n' = some (.slice none 0 0) := fun n' h => by
    show (match rn k σ n' with
      | some (some q) => m.β q
      | some none => some (.slice none 0 0)
      | none => none) = _
    rw [h]
  have hφ : ∀ n n', rn k σ n' = some (some n) → m'.φ n' = m.φ n := fun n n' h => by
    funext b
    apply propext
    constructor
    · rintro ⟨q, h1, h2⟩; rw [h] at h1; cases h1; exact h2
    · exact fun h2 => ⟨n, h, h2⟩
  have hob : ∀ n o', getO L.obs n = some o' → n ∈ L.obs.map (·.1) ∧ ∃ v, m'.β n = some v ∧ ObAt w m' n v o' ∧ ((∀ b, ¬ foot m' n v o' b) ∨ ∃ q o, rn k σ n = some (some q) ∧ as.ob q = some o ∧ o'.live = o.live ∧ m.β q = some v ∧ ∀ b, foot m' n v o' b ↔ foot m q v o b) := fun n o' h => by
    obtain ⟨h1, h2⟩ := obsOk_get ho n o' h
    refine ⟨h1, ?_⟩
    unfold obOk at h2
    split at h2
    · rename_i q hq
      split at h2
      · rename_i o hqo
        obtain ⟨v, hv, hat⟩ := hR.mr.obs q o hqo
        obtain ⟨h3, h4, h5⟩ := ObAt.eqO (m := m) (m' := m') rfl hb hz (hφ q n hq) hat h2
        exact ⟨v, by rw [hb _ _ hq]; exact hv, h3, .inr ⟨q, o, hq, hqo, h4, hv, h5⟩⟩
      · exact h2.elim
    · rename_i hq
      split at h2
      · obtain ⟨rfl, rfl⟩ := h2
        exact ⟨_, hz _ hq, ⟨by simp, .inl ⟨rfl, rfl⟩⟩, .inl fun b h => by simp [foot, blk] at h⟩
      · exact h2.elim
    · exact h2.elim
  have mr : MR m' w (getO L.obs) := by
    refine ⟨hR.mr.imm, fun n o' h => ?_, fun n n' o o' x x' b h h' hl hl' hne hx hx' hbx hbx' => ?_⟩
    · obtain ⟨_, v, hv, hat, _⟩ := hob n o' h
      exact ⟨v, hv, hat⟩
    · obtain ⟨g1, v, hv, _, hq1⟩ := hob n o h
      obtain ⟨g2, v', hv', _, hq2⟩ := hob n' o' h'
      rw [hv] at hx
      rw [hv'] at hx'
      cases hx; cases hx'
      rcases hq1 with hq1 | ⟨q, o1, hq, hqo, hlq, hvq, hfq⟩
      · exact (hq1 b hbx).elim
      rcases hq2 with hq2 | ⟨q', o2, hq', hqo', hlq', hvq', hfq'⟩
      · exact (hq2 b hbx').elim
      have hqq : q ≠ q' := by
        intro e
        subst e
        have hcount : ∀ (l : List Nat), nodup (l.filterMap fun n => (rn k σ n).getD none) = true → n ∈ l → n' ∈ l → False := by
          intro l
          induction l with
          | nil => intro _ h; simp at h
          | cons c l ih =>
            intro hnd hn hn'
            have fn : (fun n => (rn k σ n).getD none) n = some q := by simp [hq]
            have fn' : (fun n => (rn k σ n).getD none) n' = some q := by simp [hq']
            have tail : nodup (l.filterMap fun n => (rn k σ n).getD none) = true := by
              rw [List.filterMap_cons] at hnd
              split at hnd
              · exact hnd
              · simp only [nodup, Bool.and_eq_true] at hnd; exact hnd.2
            have head : (fun n => (rn k σ n).getD none) c = some q → q ∉ l.filterMap fun n => (rn k σ n).getD none := fun hc => by
              have hc' : (rn k σ c).getD none = some q := hc
              rw [List.filterMap_cons, hc'] at hnd
              simp only [nodup, Bool.and_eq_true, Bool.not_eq_true', List.contains_eq_mem, decide_eq_false_iff_not] at hnd
              exact hnd.1
            rcases List.mem_cons.1 hn with e1 | h1
            · rcases List.mem_cons.1 hn' with e2 | h2
              · exact hne (e1.trans e2.symm)
              · exact head (by rw [← e1]; exact fn) (List.mem_filterMap.2 ⟨n', h2, fn'⟩)
            · rcases List.mem_cons.1 hn' with e2 | h2
              · exact head (by rw [← e2]; exact fn') (List.mem_filterMap.2 ⟨n, h1, fn⟩)
              · exact ih tail h1 h2
        exact hcount _ hnd g1 g2
      exact hR.mr.apart q q' o1 o2 _ _ b hqo hqo' (by rw [← hlq]; exact hl) (by rw [← hlq']; exact hl') hqq hvq hvq' ((hfq b).1 hbx) ((hfq' b).1 hbx')
  have howned : ∀ b, own m' (L.as as.N).ob b → own m as.ob b := fun b hown => by
    obtain ⟨n, o', x, hn, hl, hx, hbx⟩ := hown
    obtain ⟨_, v, hv, _, hq⟩ := hob n o' hn
    rw [hv] at hx
    cases hx
    rcases hq with hq | ⟨q, o, hq, hqo, hlq, hvq, hfq⟩
    · exact (hq b hbx).elim
    · exact ⟨q, o, _, hqo, by rw [← hlq]; exact hl, hvq, (hfq b).1 hbx⟩
  refine ⟨m', ⟨mr, hR.size, fun t => Rep.eqr (m := m) (m' := m') rfl hb hz (hR.tm t) (tmsOk_get ht t)⟩, fun n hn => ?_, fun c v x he hr => Rep.eqr (m := m) (m' := m') rfl hb hz hr he, rfl, howned, fun n hlt => hb _ _ (by simp [rn, hlt])⟩
  show (match rn k σ n with
    | some (some q) => m.β q
    | some none => some (.slice none 0 0)
    | none => none) = none
  have : rn k σ n = none := by
    unfold rn
    rw [if_neg (by omega), List.getElem?_eq_none (by omega)]
  rw [this]
theorem Ent.sound {L : LS} (h : Ent k as σ L) (hR : Rel m w as a) (h0 : Fr k m0) (hE : Ext w0 m0 ob0 w m as.ob) : ∃ m', Rel m' w (L.as as.N) a ∧ Ext w0 m0 ob0 w m' (L.as as.N).ob ∧ Fr (k + σ.length) m' ∧ (∀ c v x, eqr (rn k σ) c v → Rep w m c x → Rep w m' v x) ∧ m'.I = m.I ∧ (∀ b, own m' (L.as as.N).ob b → own m as.ob b) ∧ ∀ n, n < k → m'.β n = m.β n := by
  obtain ⟨m', g1, g2, g3, g4, g5, g6⟩ := h.sound0 hR
  refine ⟨m', g1, ⟨fun b hb => by rw [g4]; exact hE.sub b hb, fun b hb => hE.grow b (by rw [← g4]; exact hb), hE.keep, hE.keepI, fun n x hn => ?_, fun b hown => hE.owned b (g5 b hown), hE.os, hE.tape, hE.output, hE.size⟩, g2, g3, g4, g5, g6⟩
  have hlt : n < k := by
    rcases Nat.lt_or_ge n k with h | h
    · exact h
    · rw [h0 n h] at hn; cases hn
  rw [g6 n hlt]
  exact hE.beta n x hn
end

/-! ### code -/
def onCond (x : AV) (K : Bool → Prop) : Prop := match x with
  | .v (.bool b) => K b
  | .bl ct cf => (ct → K true) ∧ (cf → K false)
  | _ => False
def tmsSelf (ρ : Nat → Option (Option Nat)) : List (Nat × AV) → Prop
  | [] => True
  | (_, v) :: l => eqr ρ v v ∧ tmsSelf ρ l
def putAll (as : AS) : List Tmp → List AV → AS
  | t :: ts, v :: vs => putAll (as.put (some t) v) ts vs
  | _, _ => as
def pendOf : Exit → Option Exit
  | .normal => none
  | e => some e
def jumpOk : Option Exit → Prop
  | none => True
  | some .ret => True
  | some (.exit _) => True
  | _ => False
/-- What is handed to a function that is ranged over, beside the rounds: it comes back as it was. -/
def exsOk (k : Nat) (exs : List (Nat × Obj)) (pre : List Obj) : Prop :=
  (∀ p ∈ exs, p.1 < k) ∧ nodup (exs.map (·.1)) = true ∧ preOk (rt ((k + 32) :: exs.map (·.1))) (getO exs) (exs.map (·.1)) pre ∧ pre.map (renO (rb ((k + 32) :: exs.map (·.1)) (k + 33))) = exs.map (·.2) ∧ ∀ p ∈ exs, eqO (rn k []) p.2 p.2
theorem exsOk_nil (k : Nat) : exsOk k [] [] := ⟨fun _ h => by simp at h, rfl, trivial, rfl, fun _ h => by simp at h⟩
/-- A box that is not written any more: a temporary that points into it points to a row that cannot turn. (Box, temporary, place, cells.) -/
abbrev Fz := Nat × Nat × Nat × List DV
def frz1B (as : AS) (q : Fz) : AS := { tm := upd as.tm q.2.1 (.elp q.2.2.2.length [q.2.2.2] 0 q.2.2.1), ob := upd as.ob q.1 none, N := as.N }
def frzS : AS → List Fz → AS
  | as, [] => as
  | as, q :: l => frzS (frz1B as q) l
def frzOk : AS → List Fz → Prop
  | _, [] => True
  | as, q :: l => (match as.ob q.1 with
    | some (.box _ cells) => cells = q.2.2.2.map ofD
    | _ => False) ∧ as.tm q.2.1 = .ptr q.1 q.2.2.1 ∧ frzOk (frz1B as q) l
theorem frzS_N : ∀ (l : List Fz) (as : AS), (frzS as l).N = as.N
  | [], as => rfl
  | q :: l, as => frzS_N l (frz1B as q)
theorem cell_box {w : World} {g n j : Nat} {cs : Array Value} {t : TypeId} (hh : w.heap[g]? = some (.cells cs t (0, 0))) (hj : j < cs.size) : w.cell? ⟨g, 0 + (0 * n + j), none⟩ = some (cs.getD j undef) := by
  rw [show 0 + (0 * n + j) = j by omega, cell_of_row w g j cs t (0, 0) hh]
  simp [Array.getD, hj]
theorem rd_of {w : World} {m : Mem} {d : DV} {x : Value} (h : Rep w m (ofD d) x) : RD w m.I d x := by
  cases d with
  | v y => cases h; exact .v _
  | sl sz rows => cases h with
    | sl _ _ _ h => exact h
theorem frz1B_sound {m : Mem} {w : World} {as : AS} {a : Act} {q : Fz} (hR : Rel m w as a) (hb : match as.ob q.1 with
    | some (.box _ cells) => cells = q.2.2.2.map ofD
    | _ => False) (ht : as.tm q.2.1 = .ptr q.1 q.2.2.1) : ∃ m', Rel m' w (frz1B as q) a ∧ Ext w m as.ob w m' (frz1B as q).ob ∧ m'.β = m.β := by
  obtain ⟨n, t, off, row⟩ := q
  simp only at hb ht
  cases hn : as.ob n with
  | none => rw [hn] at hb; exact hb.elim
  | some o =>
    rw [hn] at hb
    cases o with
    | row => exact hb.elim
    | opq => exact hb.elim
    | map => exact hb.elim
    | box ty cells =>
      simp only at hb
      subst hb
      obtain ⟨v, hv, hat⟩ := hR.mr.obs n _ hn
      have hat0 := hat
      obtain ⟨g, cs, rfl, hh, hsz, hr, h1, hI⟩ := hat
      have hsz' : cs.size = row.length := by rw [hsz, List.length_map]
      have c : Chg m w as.ob (fun i => i = n) (fun b => b = g) (fun _ => False) ⟨fun b => m.I b ∨ b = g, m.β, m.φ⟩ w (upd as.ob n none) := by
        refine ⟨fun b hb => ⟨n, _, _, rfl, hn, rfl, hv, by rw [hb]; rfl⟩, fun b hb hne => rfl, Nat.le_refl _, rfl, rfl, rfl, fun b hb => .inl hb, fun b hb => hb.elim .inl fun h => .inr (.inl h), fun b hb => hb.elim (hR.mr.imm b) fun h => hat0.blk_lt (by rw [h]; rfl), fun _ _ h => h, fun _ _ _ => rfl, fun i p hp => ?_, fun _ _ _ _ _ _ _ hd => hd.elim⟩
        by_cases h : i = n
        · subst h
          simp [upd] at hp
        · simp [upd, h] at hp
          exact .inl ⟨hp, h, fun h => h⟩
      have hmr := c.mr hR.mr
      have hext := c.ext hR.mr
      refine ⟨_, ⟨hmr, hR.size, fun t' => ?_⟩, hext, rfl⟩
      show Rep w _ (upd as.tm t (.elp row.length [row] 0 off) t') _
      by_cases e : t' = t
      · subst e
        have h0 := hR.tm t'
        rw [ht] at h0
        rw [upd_same]
        generalize a.tmps.getD t' undef = x at h0 ⊢
        cases h0 with
        | ptr _ _ g' h' =>
          rw [hv] at h'
          cases h'
          have key : Rep w ⟨fun b => m.I b ∨ b = g, m.β, m.φ⟩ (.elp row.length [row] 0 off) (.pointer (some ⟨g, 0 + (0 * row.length + off), none⟩)) := by
            refine .elp _ _ g 0 0 off (fun _ j => cs.getD j undef) (fun r hr => by rw [List.mem_singleton.1 hr]) (by simp) (.inr rfl) (fun i j hi hj => ?_) (fun i j hi hj => ?_) (fun i r j a hr' ha => ?_)
            · have hi0 : i = 0 := by simpa using hi
              subst hi0
              exact cell_box (n := row.length) hh (by omega)
            · refine h1 _ ?_
              have : j < cs.size := by omega
              rw [Array.getD_eq_getD_getElem?, Array.getElem?_eq_getElem this]
              exact Array.getElem_mem this
            · have hr0 : i = 0 ∧ r = row := by
                cases i with
                | zero => exact ⟨rfl, by simpa using hr'.symm⟩
                | succ i => simp at hr'
              obtain ⟨rfl, rfl⟩ := hr0
              have := hr j (ofD a) (by rw [List.getElem?_map, ha]; rfl)
              exact RD.ext (rd_of this) (fun _ h => .inl h) (fun _ _ => rfl)
          have e2 : 0 + (0 * row.length + off) = off := by omega
          rw [e2] at key
          exact key
      · rw [upd_ne _ _ _ _ e]
        exact (hR.tm t').of_ext hext
theorem frzS_sound {w : World} {a : Act} : ∀ {l : List Fz} {m : Mem} {as : AS}, Rel m w as a → frzOk as l → ∃ m', Rel m' w (frzS as l) a ∧ Ext w m as.ob w m' (frzS as l).ob ∧ m'.β = m.β
  | [], m, as, hR, _ => ⟨m, hR, Ext.refl _ _ _, rfl⟩
  | q :: l, m, as, hR, ⟨h1, h2, h3⟩ => by
    obtain ⟨m1, r1, e1, b1⟩ := frz1B_sound hR h1 h2
    obtain ⟨m2, r2, e2, b2⟩ := frzS_sound r1 h3
    exact ⟨m2, r2, e1.trans e2, b2.trans b1⟩
/-- Where the objects lie that are there before the rounds: of each, what its value is like. -/
def VOk (k : Nat) (V : Nat → Option Value) (os : List (Nat × Obj)) : Prop := ∀ n o, n < k → getO os n = some o → ∃ v w m, V n = some v ∧ ObAt w m n v o
/-- The same value, said otherwise by one who knows where the objects lie. -/
def lit (V : Nat → Option Value) (a a' : AV) : Prop := ∀ (w : World) (m : Mem) (x : Value), (∀ n u, V n = some u → m.β n = some u) → Rep w m a x → Rep w m a' x
theorem lit_refl (V : Nat → Option Value) (a : AV) : lit V a a := fun _ _ _ _ h => h
theorem litL_refl (V : Nat → Option Value) : ∀ l : List AV, eqrL (lit V) l l
  | [] => trivial
  | a :: l => ⟨lit_refl V a, litL_refl V l⟩
/-- A state of the rounds says where its objects lie. -/
def Knows {ι : Type} (V : Nat → Option Value) (obs : ι → List (Nat × Obj)) (Φ : ι → Value → (Nat → Prop) → (Nat → Prop) → World → Prop) : Prop :=
  ∀ x v I F w, Φ x v I F w → ∃ m : Mem, m.I = I ∧ (∀ n u, V n = some u → m.β n = some u) ∧ ∀ n o, getO (obs x) n = some o → ∃ u, m.β n = some u ∧ ObAt w m n u o
def vc (P : Program) (eq : TypeId → Option (List Value)) : Code → Nat → AS → (Exit → Nat → AS → Prop) → Prop
  | .skip, k, as, Q => Q .normal k as
  | .region _ ops false, k, as, Q => vcOps P eq ops k ops.toList as fun as' => Q .normal (k + 8 * ops.size) as'
  | .region _ ops true, k, as, Q => vcOpsD P eq ops k ops.toList [] as fun as' => Q .normal (k + 8 * ops.size) as'
  | .seq c d, k, as, Q => vc P eq c k as fun e k' as' => match e with
    | .normal => vc P eq d k' as' Q
    | e => Q e k' as'
  | .cond x c d, k, as, Q => onCond (ev as x) (fun b => (b = true → vc P eq c k as Q) ∧ (b = false → vc P eq d k as Q))
  | .block id c, k, as, Q => vc P eq c k as fun e k' as' => match e with
    | .exit j => if j = id then Q .normal k' as' else Q (.exit j) k' as'
    | e => Q e k' as'
  | .loop c, k, as, Q => ∃ (α : Type) (J : α → LS) (μ : α → Nat) (x0 : α), (∃ σ, Ent k as σ (J x0)) ∧ ∀ x, vc P eq c (k + 32) ((J x).as as.N) fun e k' as' => match e with
    | .normal => ∃ y, μ y < μ x ∧ as'.N = as.N ∧ ∃ σ, Ent k as' σ (J y)
    | e => Q e k' as'
  | .rangeFunc g ps assign body, k, as0, Q => ∃ (fr : List Fz) (as : AS), as = frzS as0 fr ∧ frzOk as0 fr ∧ ∃ (it : FuncId) (bs : List AV) (ι : Type) (tms : List (Nat × AV)) (obs : ι → List (Nat × Obj)) (exs : List (Nat × Obj)) (pre : List Obj) (pend : ι → Option Exit) (x0 y0 : ι) (r : AV),
      (∃ σ, Ent k as σ ⟨tms, obs x0 ++ exs⟩) ∧ exsOk k exs pre ∧ (∀ x, ∀ p ∈ exs, getO (obs x) p.1 = none) ∧ pend x0 = none ∧ jumpOk (pend y0) ∧ (∀ σ, tmsSelf (rn k σ) tms) ∧
      (∀ V : Nat → Option Value, VOk k V (obs x0 ++ exs) → ∃ (bs1 bs' A : List AV) (St : ι → List AV → ι → Prop),
        (ev as g = .bf it bs ∧ A = bs' ++ [.yl 0] ∨ ev as g = .fn it bs ∧ A = .yl 0 :: bs') ∧ eqrL (lit V) bs bs1 ∧ eqrL (eqr2 (rt ((k + 32) :: exs.map (·.1)))) bs1 bs' ∧
        (∀ Φ : ι → Value → (Nat → Prop) → (Nat → Prop) → World → Prop, ((∀ x, ∀ p ∈ obs x, onlyO p.2) → Shr Φ) → Knows V obs Φ → (∀ x args y, St x args y → CbG P args [.opq (Φ x)] (.v (.bool (pend y).isNone)) [.opq (Φ y)]) → SpecG P it A (.opq (Φ x0) :: pre) r (.opq (Φ y0) :: pre)) ∧
        (∀ x args y, St x args y → pend x = none ∧ jumpOk (pend y) ∧ args.length = ps.size ∧ ∃ args1 args', eqrL (eqr2 (rt [])) args args1 ∧ eqrL (lit V) args1 args' ∧
          vc P eq assign (k + 32) (putAll ((LS.mk tms (obs x)).as as.N) ps.toList args') fun e k1 as1 => e = .normal ∧ vc P eq body k1 as1 fun e k2 as2 => pendOf e = pend y ∧ ∃ σ, Ent k as2 σ ⟨[], obs y⟩)) ∧
      (match pend y0 with
        | none => Q .normal (k + 32) ((LS.mk tms (obs y0 ++ exs)).as as.N)
        | some e => Q e (k + 32) ((LS.mk tms (obs y0 ++ exs)).as as.N))
  | .exit id, k, as, Q => Q (.exit id) k as
  | .ret, k, as, Q => Q .ret k as
  | _, _, _, _ => False

/-- Every region whose order is drawn is fit for it. -/
def drawsOk : Code → Bool
  | .region _ ops true => drawOk ops
  | .seq c d => drawsOk c && drawsOk d
  | .cond _ c d => drawsOk c && drawsOk d
  | .block _ c => drawsOk c
  | .loop c => drawsOk c
  | .rangeFunc _ _ c d => drawsOk c && drawsOk d
  | _ => true

theorem least {p : Nat → Prop} (h : ∃ j, p j) : ∃ j, p j ∧ ∀ i, p i → j ≤ i := by
  obtain ⟨j, hj⟩ := h
  induction j using Nat.strongRecOn with
  | ind j ih =>
    by_cases hq : ∃ i, i < j ∧ p i
    · obtain ⟨i, hi, hp⟩ := hq
      exact ih i hi hp
    · exact ⟨j, hj, fun i hi => by
        rcases Nat.lt_or_ge i j with h | h
        · exact absurd ⟨i, h, hi⟩ hq
        · exact h⟩

noncomputable def leastOf (p : Nat → Prop) : Nat := open Classical in if h : ∃ j, p j then Classical.choose (least h) else 0
theorem leastOf_spec {p : Nat → Prop} {j : Nat} (h : p j) : p (leastOf p) ∧ leastOf p ≤ j := by
  have he : ∃ j, p j := ⟨j, h⟩
  unfold leastOf
  rw [dif_pos he]
  exact ⟨(Classical.choose_spec (least he)).1, (Classical.choose_spec (least he)).2 j h⟩

end Go.Proofs.YtciegkpjenjaeaaDoor.Ab
