/- Regions and code: what must be shown, and that it is enough. -/
import Derived.Test.YtfaekiaegebmbaaAbI
namespace Go.Proofs.Ytfaekiaegebmbaa.Ab
open Go Go.RowKit
set_option linter.unusedSimpArgs false
set_option linter.unusedVariables false

/-- What was handed over is as it was. -/
def sameL (ob : Nat → Option Obj) (ρ : Nat → Nat) : List Nat → List Obj → Prop
  | [], _ => True
  | q :: τ, o :: l => ob q = some (renO ρ o) ∧ sameL ob ρ τ l
  | _ :: _, [] => False
theorem sameL_app {ρ : Nat → Nat} {k : Nat} : ∀ {τ : List Nat} {post : List Obj} {ob : Nat → Option Obj}, sameL ob ρ τ post → app ob (postCh ρ k τ post) = app ob (postCh ρ k [] (post.drop τ.length))
  | [], post, ob, _ => rfl
  | q :: τ, o :: l, ob, h => by
    have e : upd ob q (some (renO ρ o)) = ob := by
      funext n
      unfold upd
      split
      · rename_i hn; rw [hn, h.1]
      · rfl
    show app (upd ob q (some (renO ρ o))) (postCh ρ k τ l) = _
    rw [e]
    exact sameL_app h.2
  | _ :: _, [], _, h => h.elim
theorem sameL_keys {ρ : Nat → Nat} {k n : Nat} : ∀ {τ : List Nat} {post : List Obj} {ob : Nat → Option Obj}, sameL ob ρ τ post → n ∉ τ → (n ∈ (postCh ρ k τ post).map (·.1) ↔ n ∈ (postCh ρ k [] (post.drop τ.length)).map (·.1))
  | [], post, ob, _, _ => Iff.rfl
  | q :: τ, o :: l, ob, h, hn => by
    simp only [List.mem_cons, not_or] at hn
    show n ∈ q :: (postCh ρ k τ l).map (·.1) ↔ _
    rw [List.mem_cons, sameL_keys h.2 hn.2]
    constructor
    · rintro (h1 | h1)
      · exact absurd h1 hn.1
      · exact h1
    · exact .inr
  | _ :: _, [], _, h, _ => h.elim

/-- A call of a function by its contract. fr: what is frozen, ln: what is lent, τ: what is handed over to be written. -/
def vcCall (C : List AV → List Obj → AV → List Obj → Prop) (hd : Option Nat) (k : Nat) (as : AS) (fp : List Nat) (args : List AV) (K : List (Nat × Option Obj) → AV → Prop) : Prop :=
  ∃ (fr ln τ : List Nat) (args' : List AV) (pre : List Obj) (r : AV) (post : List Obj), (∀ n, hd = some n → τ[0]? = some n) ∧ (∀ n, n ∈ fr ∨ n ∈ ln ∨ n ∈ τ → n ∈ fp) ∧ nodup τ = true ∧ (∀ q ∈ τ, q < k) ∧ (∀ n ∈ ln, n ∉ τ ∧ ∃ o, app as.ob (frCh as.ob fr) n = some o) ∧
    eqrL (eqr2 (rt τ)) (args.map (low (app as.ob (frCh as.ob fr)) ln)) args' ∧ preOk (rt τ) (app as.ob (frCh as.ob fr)) τ pre ∧ (ln = [] ∨ (only r ∧ ∀ o ∈ post, onlyO o)) ∧ C args' pre r post ∧
    (K (frCh as.ob fr ++ postCh (rb τ k) k τ post) (ren (rb τ k) r) ∨ sameL (app as.ob (frCh as.ob fr)) (rb τ k) τ post ∧ K (frCh as.ob fr ++ postCh (rb τ k) k [] (post.drop τ.length)) (ren (rb τ k) r))

theorem thin_ok {P : Program} {eq : TypeId → Option (List Value)} {k : Nat} {o : Oper} {as : AS} {r : AV} {fr τ : List Nat} {post : List Obj} (h : Step0 P eq k o as r (frCh as.ob fr ++ postCh (rb τ k) k τ post)) (hs : sameL (app as.ob (frCh as.ob fr)) (rb τ k) τ post) (hτ : ∀ n ∈ τ, n ∈ fpt as o.op) :
    Step P eq k o as r (frCh as.ob fr ++ postCh (rb τ k) k [] (post.drop τ.length)) := by
  refine .thin _ h (fun n => ?_) (fun n hn => ?_)
  · rw [app_append, app_append, sameL_app hs]
  · rw [List.map_append, List.map_append, List.mem_append, List.mem_append, sameL_keys hs (fun h => hn (hτ n h))]

def onPure (x : Option (Prop × AV)) (K : AV → Prop) (E : Prop) : Prop := match x with
  | some (p, r) => p ∧ (p → K r)
  | none => E
def onMem (x : Option (Prop × AV × List (Nat × Option Obj))) (K : AV → List (Nat × Option Obj) → Prop) (E : Prop) : Prop := match x with
  | some (p, r, set) => p ∧ (p → K r set)
  | none => E
def onFn (x : AV) (K : FuncId → List AV → Prop) (C : Nat → Prop) : Prop := match x with
  | .fn g cap => K g cap
  | .yl n => C n
  | _ => False
def onBool (x : AV) (K : Bool → Prop) (E : Prop) : Prop := match x with
  | .v (.bool b) => K b
  | .v (.tuple _) => E
  | _ => False
theorem onPure_some (p : Prop) (r : AV) (K : AV → Prop) (E : Prop) : onPure (some (p, r)) K E = (p ∧ (p → K r)) := rfl
theorem onPure_none (K : AV → Prop) (E : Prop) : onPure none K E = E := rfl
theorem onMem_some (p : Prop) (r : AV) (set : List (Nat × Option Obj)) (K : AV → List (Nat × Option Obj) → Prop) (E : Prop) : onMem (some (p, r, set)) K E = (p ∧ (p → K r set)) := rfl
theorem onMem_none (K : AV → List (Nat × Option Obj) → Prop) (E : Prop) : onMem none K E = E := rfl
theorem onBool_bool (b : Bool) (K : Bool → Prop) (E : Prop) : onBool (.v (.bool b)) K E = K b := rfl
theorem onBool_undef (l : Array Value) (K : Bool → Prop) (E : Prop) : onBool (.v (.tuple l)) K E = E := rfl

def calleeOf : Op → Option (Operand × List Operand)
  | .call c => match c.callee with
    | .value x => some (x, c.args.toList)
    | _ => none
  | _ => none
theorem calleeOf_some {o : Op} {x : Operand} {l : List Operand} (h : calleeOf o = some (x, l)) : ∃ c, o = .call c ∧ c.callee = .value x ∧ c.args.toList = l := by
  unfold calleeOf at h
  split at h
  · rename_i c
    split at h
    · rename_i y hy
      cases h
      exact ⟨c, rfl, hy, rfl⟩
    · cases h
  · cases h

/-- An owned slice cut short: the prover's choice (else it is frozen). -/
def vcCut (P : Program) (k : Nat) (as : AS) (o : Oper) (K : List (Nat × Option Obj) → AV → Prop) : Prop := ∃ (t : TypeId) (x h : Operand) (n len e e' sz : Nat) (rows : List (List DV)) (kh : IntKind) (hv : Int),
  o.op = .slice t x none (some h) none ∧ ev as x = .ob n len ∧ as.ob n = some (.row e sz rows false) ∧ ev as h = .v (.int kh hv) ∧ 0 ≤ hv ∧ hv ≤ rows.length ∧ elt P t = some (e', sz) ∧ n ∈ fpt as o.op ∧
    K [(n, none), (k, some (.row e sz (rows.take hv.toNat) false))] (.ob k hv.toNat)

def vcOp (P : Program) (eq : TypeId → Option (List Value)) (k : Nat) (as : AS) (o : Oper) (K : List (Nat × Option Obj) → AV → Prop) : Prop := match calleeOf o.op with
  | some (x, l) => onFn (ev as x) (fun g cap => vcCall (SpecG P g) none k as (fpt as o.op) (evs as l ++ cap) K) (fun n => vcCall (CbG P) (some n) k as (fpt as o.op) (evs as l) K)
  | none => onPure (pureOp P eq as o.op) (K []) (onMem (opD P k (as.chg (frCh as.ob (frOf as o.op))) o.op) (fun r set => K (frCh as.ob (frOf as o.op) ++ set) r) False) ∨ vcCut P k as o K

theorem vcOp_step {P : Program} {eq : TypeId → Option (List Value)} {k : Nat} {as : AS} {o : Oper} {K : List (Nat × Option Obj) → AV → Prop} (h : vcOp P eq k as o K) : ∃ r ch, Step P eq k o as r ch ∧ K ch r := by
  unfold vcOp at h
  split at h
  · rename_i x l hc
    obtain ⟨c, ho, hcc, rfl⟩ := calleeOf_some hc
    unfold onFn at h
    split at h
    · rename_i g cap hg
      obtain ⟨fr, ln, τ, args', pre, r, post, _, h1, h2, h3, h4, h5, h6, h7, hs, hK⟩ := h
      have hst : Step0 P eq k o as _ _ := .call c x g cap fr ln τ args' pre r post ho hcc hg h1 h2 h3 h4 h5 h6 h7 hs
      rcases hK with hK | ⟨hsm, hK⟩
      · exact ⟨_, _, .base hst, hK⟩
      · exact ⟨_, _, thin_ok hst hsm (fun n hn => h1 n (.inr (.inr hn))), hK⟩
    · rename_i n hg
      obtain ⟨fr, ln, τ, args', pre, r, post, h0, h1, h2, h3, h4, h5, h6, h7, hs, hK⟩ := h
      have hst : Step0 P eq k o as _ _ := .cb c x n fr ln τ args' pre r post ho hcc hg (h0 n rfl) h1 h2 h3 h4 h5 h6 h7 hs
      rcases hK with hK | ⟨hsm, hK⟩
      · exact ⟨_, _, .base hst, hK⟩
      · exact ⟨_, _, thin_ok hst hsm (fun n hn => h1 n (.inr (.inr hn))), hK⟩
    · exact h.elim
  · rcases h with h | ⟨t, x, y, n, len, e, e', sz, rows, kh, hv, ho, hx, hob, hh, h0, h1, ht, hfp, hK⟩
    case inr => exact ⟨_, _, .base <| .cut t x y n len e e' sz rows kh hv ho hx hob hh h0 h1 ht hfp, hK⟩
    unfold onPure at h
    split at h
    · rename_i p r hp
      exact ⟨r, [], .base <| .pure p r hp h.1, h.2 h.1⟩
    · unfold onMem at h
      split at h
      · rename_i p r set hp
        exact ⟨r, _, .base <| .mem p r set hp h.1, h.2 h.1⟩
      · exact h.elim

/-- The temporary on which an operation's guard looks. -/
def gdst (ops : Array Oper) (j : Nat) : Option Tmp := (ops[j]?).bind (·.dst)

def AS.know (as : AS) (t : Tmp) (b : Bool) : AS := { as with tm := upd as.tm t (.v (.bool b)) }

def vcOps (P : Program) (eq : TypeId → Option (List Value)) (ops : Array Oper) : Nat → List Oper → AS → (AS → Prop) → Prop
  | _, [], as, K => K as
  | k, o :: l, as, K => match o.guard with
    | none => vcOp P eq k as o fun ch r => vcOps P eq ops (k + 8) l ((as.chg ch).put o.dst r) K
    | some (j, want) => match gdst ops j with
      | none => False
      | some t => onBool (as.tm t) (fun b => (b = want → vcOp P eq k (as.know t want) o fun ch r => vcOps P eq ops (k + 8) l (((as.know t want).chg ch).put o.dst r) K) ∧ (b = !want → vcOps P eq ops (k + 8) l ((as.know t !want).put o.dst (.v undef)) K))
          (vcOps P eq ops (k + 8) l (as.put o.dst (.v undef)) K)

section
variable {P : Program} {eq : TypeId → Option (List Value)} {ro : Option Nat} {n s : Nat}

/-- What stands in the heap beside the objects: the blocks that the marks name (made from s on), and the record of the round that runs. -/
structure Aux (s : Nat) (ro : Option Nat) (w : World) (m : Mem) (ob : Nat → Option Obj) (ds : List Deferred) : Prop where
  marks : ∀ d ∈ ds, ∃ r, d = { target := .collected r, args := #[] } ∧ s ≤ r ∧ w.heap[r]? = some (.deferred (some [])) ∧ ¬ own m ob r ∧ ¬ m.I r
  nd : ds.Nodup
  sz : s ≤ w.heap.size
  rnd : ∀ l, ro = some l → ∃ r, w.heap[l]? = some (.loop r) ∧ ¬ own m ob l ∧ ¬ m.I l
theorem lt_of_get {w : World} {b : Nat} {o : _root_.Go.Obj} (h : w.heap[b]? = some o) : b < w.heap.size := by
  rcases Nat.lt_or_ge b w.heap.size with h1 | h1
  · exact h1
  · rw [Array.getElem?_eq_none h1] at h; cases h
theorem Aux.ext {s : Nat} {ro : Option Nat} {w w' : World} {m m' : Mem} {ob ob' : Nat → Option Obj} {ds : List Deferred} (h : Aux s ro w m ob ds) (e : Ext w m ob w' m' ob') : Aux s ro w' m' ob' ds := by
  have key : ∀ {b : Nat} {o : _root_.Go.Obj}, w.heap[b]? = some o → ¬ own m ob b → ¬ m.I b → w'.heap[b]? = some o ∧ ¬ own m' ob' b ∧ ¬ m'.I b := fun {b o} hb ho hI => by
    have hlt := lt_of_get hb
    refine ⟨(e.keep b hlt ho).trans hb, fun h1 => ?_, fun h1 => ?_⟩
    · rcases e.owned b h1 with h2 | h2
      · exact ho h2
      · omega
    · rcases e.grow b h1 with h2 | h2 | h2
      · exact hI h2
      · exact ho h2
      · omega
  refine ⟨fun d hd => ?_, h.nd, Nat.le_trans h.sz e.size, fun l hl => ?_⟩
  · obtain ⟨r, h1, h2, h3, h4, h5⟩ := h.marks d hd
    obtain ⟨g1, g2, g3⟩ := key h3 h4 h5
    exact ⟨r, h1, h2, g1, g2, g3⟩
  · obtain ⟨r, h3, h4, h5⟩ := h.rnd l hl
    obtain ⟨g1, g2, g3⟩ := key h3 h4 h5
    exact ⟨r, g1, g2, g3⟩
theorem Aux.less {s : Nat} {ro : Option Nat} {w : World} {m m' : Mem} {ob ob' : Nat → Option Obj} {ds : List Deferred} (h : Aux s ro w m ob ds) (hI : m'.I = m.I) (ho : ∀ b, own m' ob' b → own m ob b) : Aux s ro w m' ob' ds := by
  refine ⟨fun d hd => ?_, h.nd, h.sz, fun l hl => ?_⟩
  · obtain ⟨r, h1, h2, h3, h4, h5⟩ := h.marks d hd
    exact ⟨r, h1, h2, h3, fun hb => h4 (ho r hb), by rw [hI]; exact h5⟩
  · obtain ⟨r, h3, h4, h5⟩ := h.rnd l hl
    exact ⟨r, h3, fun hb => h4 (ho l hb), by rw [hI]; exact h5⟩
theorem Aux.nil {s : Nat} {w : World} {m : Mem} {ob : Nat → Option Obj} (h : s ≤ w.heap.size) : Aux s none w m ob [] := ⟨fun d hd => (by cases hd), List.nodup_nil, h, fun l h => (by cases h)⟩

/-- What a state of the abstract machine says of the walk: the continuation's part. -/
def Lands (s : Nat) (ro : Option Nat) (m : Mem) (w : World) (ob : Nat → Option Obj) (k' : Nat) (as' : AS) (m' : Mem) (w' : World) (a' : Act) : Prop :=
  Rel m' w' as' a' ∧ Fr k' m' ∧ Ext w m ob w' m' as'.ob ∧ Aux s ro w' m' as'.ob a'.defers

theorem Rel.know {m : Mem} {w : World} {as : AS} {a : Act} (hR : Rel m w as a) {t : Tmp} {b : Bool} (h : as.tm t = .v (.bool b)) : Rel m w (as.know t b) a := by
  have : as.know t b = as := by
    unfold AS.know upd
    have : (fun i => if i = t then AV.v (Value.bool b) else as.tm i) = as.tm := by
      funext i
      split
      · rename_i h'; rw [h', h]
      · rfl
    rw [this]
  rw [this]
  exact hR

theorem tm_get {m : Mem} {w : World} {as : AS} {a : Act} (hR : Rel m w as a) {t : Tmp} {x : Value} (h : as.tm t = .v x) (hx : x ≠ undef) : a.tmps[t]? = some x := by
  have h1 := hR.tm t
  rw [h] at h1
  have h2 : a.tmps.getD t undef = x := rep_v h1
  rw [Array.getD_eq_getD_getElem?] at h2
  cases hg : a.tmps[t]? with
  | none => rw [hg] at h2; exact absurd h2.symm hx
  | some y => rw [hg] at h2; simpa using h2

theorem wanted_of {m : Mem} {w : World} {as : AS} {a : Act} {ops : Array Oper} {o : Oper} (hR : Rel m w as a) {j t : Nat} {want b : Bool} (hg : o.guard = some (j, want)) (hd : gdst ops j = some t) (ht : as.tm t = .v (.bool b)) :
    Region.wanted o (yielded ops a.tmps) = (b == want) := by
  have h1 := tm_get hR ht (by simp [undef])
  unfold gdst at hd
  simp [Region.wanted, hg, yielded, hd, h1]

theorem unwanted_of {m : Mem} {w : World} {as : AS} {a : Act} {ops : Array Oper} {o : Oper} (hR : Rel m w as a) {j t : Nat} {want : Bool} {x : Array Value} (hg : o.guard = some (j, want)) (hd : gdst ops j = some t) (ht : as.tm t = .v (.tuple x)) :
    Region.wanted o (yielded ops a.tmps) = false := by
  have h1 := hR.tm t
  rw [ht] at h1
  have h2 : a.tmps.getD t undef = .tuple x := rep_v h1
  unfold gdst at hd
  simp only [Region.wanted, hg, yielded, hd, Option.bind_some]
  rw [Array.getD_eq_getD_getElem?] at h2
  cases hg : a.tmps[t]? with
  | none => rfl
  | some y =>
    rw [hg] at h2
    have : y = .tuple x := by simpa using h2
    subst this
    rfl

theorem put_rel {m : Mem} {w : World} {as : AS} {a : Act} (hR : Rel m w as a) (dst : Option Tmp) {r : AV} {u : Value} (h : Rep w m r u) : Rel m w (as.put dst r) (a.put dst u) :=
  put_rep (ch := []) hR hR.mr (Ext.refl _ _ _) h dst

theorem put_defers (a : Act) (d : Option Tmp) (u : Value) : (a.put d u).defers = a.defers := by cases d <;> rfl
theorem put_ob (as : AS) (d : Option Tmp) (r : AV) : (as.put d r).ob = as.ob := by
  cases d with
  | none => rfl
  | some d => unfold AS.put; simp only; split <;> rfl

theorem vcOp_sound {ops : Array Oper} {o : Oper} {k : Nat} {as : AS} {K : List (Nat × Option Obj) → AV → Prop} (h : vcOp P eq k as o K) {m : Mem} {w : World} {a : Act} (hR : Rel m w as a) (hk : Fr k m) (hd : Aux s ro w m as.ob a.defers) {Q : Exit → Act → World → Prop} {next : Act → World → Prop}
    (hnext : ∀ ch r m' w' a', K ch r → Lands s ro m w as.ob (k + 8) ((as.chg ch).put o.dst r) m' w' a' → next a' w') : o.wpIn (W ro) n P a w next Q := by
  obtain ⟨r, ch, hs, hK⟩ := vcOp_step h
  refine hs.sound hR (fun n h1 _ => hk n h1) fun u w' m' hr hm he hb => hnext ch r m' w' _ hK ⟨put_rep hR hm he hr o.dst, fun n hn => ?_, ?_, by rw [put_defers, put_ob]; exact hd.ext he⟩
  · rw [hb n (by omega)]; exact hk n (by omega)
  · rw [put_ob]; exact he

theorem Lands.trans {m m' m'' : Mem} {w w' w'' : World} {ob : Nat → Option Obj} {k' k'' : Nat} {as' as'' : AS} {a' a'' : Act} (h : Lands s ro m w ob k' as' m' w' a') (h' : Lands s ro m' w' as'.ob k'' as'' m'' w'' a'') : Lands s ro m w ob k'' as'' m'' w'' a'' :=
  ⟨h'.1, h'.2.1, h.2.2.1.trans h'.2.2.1, h'.2.2.2⟩

/-- A region in the text's order. -/
theorem vcOps_sound {ops : Array Oper} {K : AS → Prop} {Q : Exit → Act → World → Prop} : ∀ (l : List Oper) (i k : Nat) (as : AS), ops.toList.drop i = l → vcOps P eq ops k l as K → ∀ (m : Mem) (w : World) (a : Act), Rel m w as a → Fr k m → Aux s ro w m as.ob a.defers →
    (∀ as' m' w' a', K as' → Lands s ro m w as.ob (k + 8 * l.length) as' m' w' a' → Q .normal a' w') → wpOpsIn (W ro) n P ops Q (List.range' i l.length) a w
  | [], i, k, as, hl, h, m, w, a, hR, hk, hd, hQ => hQ as m w a h ⟨hR, hk, Ext.refl _ _ _, hd⟩
  | o :: l, i, k, as, hl, h, m, w, a, hR, hk, hd, hQ => by
    have hi : ops[i]? = some o := by
      have : (ops.toList.drop i)[0]? = some o := by rw [hl]; rfl
      rw [List.getElem?_drop] at this
      simpa using this
    have hl' : ops.toList.drop (i + 1) = l := by rw [← List.drop_drop, hl]; rfl
    simp only [List.length_cons, List.range'_succ, wpOpsIn, hi]
    have hstep : ∀ as1, vcOps P eq ops (k + 8) l as1 K → ∀ m' w' a', Lands s ro m w as.ob (k + 8) as1 m' w' a' → wpOpsIn (W ro) n P ops Q (List.range' (i + 1) l.length) a' w' := fun as1 h1 m' w' a' hL =>
      vcOps_sound l (i + 1) (k + 8) as1 hl' h1 m' w' a' hL.1 hL.2.1 hL.2.2.2 fun as2 m2 w2 a2 hK hL2 => hQ as2 m2 w2 a2 hK (by
        have e : k + 8 * (l.length + 1) = k + 8 + 8 * l.length := by omega
        rw [List.length_cons, e]
        exact hL.trans hL2)
    unfold vcOps at h
    split at h
    · rename_i hg
      have hw : Region.wanted o (yielded ops a.tmps) = true := by simp [Region.wanted, hg]
      rw [if_pos hw]
      exact vcOp_sound (ops := ops) h hR hk hd fun ch r m' w' a' hK hL => hstep _ hK m' w' a' hL
    · rename_i j want hg
      split at h
      · exact h.elim
      · rename_i t ht
        unfold onBool at h
        split at h
        · rename_i b hb
          have hw := wanted_of hR hg ht hb
          by_cases hbw : b = want
          · rw [if_pos (by rw [hw, hbw]; simp)]
            have hR' : Rel m w (as.know t want) a := hR.know (by rw [hb, hbw])
            exact vcOp_sound (ops := ops) (h.1 hbw) hR' hk hd fun ch r m' w' a' hK hL => hstep _ hK m' w' a' hL
          · have hbn : b = !want := by cases b <;> cases want <;> simp_all
            rw [if_neg (by rw [hw]; simp [hbw])]
            have hR' : Rel m w (as.know t !want) a := hR.know (by rw [hb, hbn])
            refine ⟨fun _ _ => trivial, hstep _ (h.2 hbn) m w _ ⟨put_rel hR' o.dst (.v _), fun n hn => hk n (by omega), ?_, by rw [put_defers, put_ob]; exact hd⟩⟩
            rw [put_ob]
            exact Ext.refl _ _ _
        · rename_i x hx
          have hw := unwanted_of hR hg ht hx
          rw [if_neg (by rw [hw]; simp)]
          refine ⟨fun _ _ => trivial, hstep _ h m w _ ⟨put_rel hR o.dst (.v _), fun n hn => hk n (by omega), ?_, by rw [put_defers, put_ob]; exact hd⟩⟩
          rw [put_ob]
          exact Ext.refl _ _ _
        · exact h.elim

end
end Go.Proofs.Ytfaekiaegebmbaa.Ab
