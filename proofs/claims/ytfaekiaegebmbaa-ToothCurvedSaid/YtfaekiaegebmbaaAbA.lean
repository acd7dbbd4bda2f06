/- The abstract machine's values, memory and the relation to the model's worlds. No program in sight. -/
import Derived.WalkKit
import Derived.ControlIn
import Derived.CallsIn
import Derived.RangeFuncIn
import Derived.Laws.AppendOwn
import Derived.MapKept
namespace Go.Proofs.Ytfaekiaegebmbaa.Ab
open Go Go.RowKit
set_option linter.unusedSimpArgs false
set_option linter.unusedVariables false

/-- What a cell of memory that cannot turn holds: a plain value, or a slice as its rows. -/
inductive DV where
  | v (x : Value)
  | sl (sz : Nat) (rows : List (List DV))

/-- An abstract value. -/
inductive AV where
  | v (x : Value)
  | sl (sz : Nat) (rows : List (List DV))
  | agg (l : List AV)
  | tup (l : List AV)
  | ob (n len : Nat)
  | ptr (n off : Nat)
  | elp (sz : Nat) (rows : List (List DV)) (i off : Nat)
  | obp (n sz i off : Nat)
  | fn (g : FuncId) (cap : List AV)
  | yl (n : Nat)
  | mp (n : Nat)
  | bl (ct cf : Prop)
  | bf (g : FuncId) (fst : List AV)
  | un

instance : Inhabited AV := ⟨.un⟩
instance : Inhabited DV := ⟨.v undef⟩

def ofD : DV → AV
  | .v x => .v x
  | .sl sz rows => .sl sz rows

/-- Immutable blocks; where the objects lie; the blocks of the objects that are opaque. -/
structure Mem where
  I : Nat → Prop
  β : Nat → Option Value
  φ : Nat → Nat → Prop

/-- What a datum says of a value of the model's. -/
inductive RD (w : World) (I : Nat → Prop) : DV → Value → Prop
  | v (x : Value) : RD w I (.v x) x
  | sl0 (sz : Nat) (A : Option Addr) (c : Nat) (hc : c ≤ maxLen) : RD w I (.sl sz []) (.slice A 0 c)
  | sl (sz : Nat) (rows : List (List DV)) (b o c : Nat) (cell : Nat → Nat → Value) (hsz : ∀ r ∈ rows, r.length = sz) (hlen : rows.length ≤ c) (hc : c ≤ maxLen) (hI : I b)
      (hcell : ∀ i j, i < rows.length → j < sz → w.cell? ⟨b, o + (i * sz + j), none⟩ = some (cell i j))
      (h1 : ∀ i j, i < rows.length → j < sz → (cell i j).oneCell' = true)
      (hrep : ∀ i r j a, rows[i]? = some r → r[j]? = some a → RD w I a (cell i j)) : RD w I (.sl sz rows) (.slice (some ⟨b, o, none⟩) rows.length c)

/-- What an abstract value says of a value of the model's. -/
inductive Rep (w : World) (m : Mem) : AV → Value → Prop
  | v (x : Value) : Rep w m (.v x) x
  | un (x : Value) : Rep w m .un x
  | sl (sz : Nat) (rows : List (List DV)) (x : Value) (h : RD w m.I (.sl sz rows) x) : Rep w m (.sl sz rows) x
  | agg (l : List AV) (xs : Array Value) (hl : l.length = xs.size) (h1 : ∀ x ∈ xs, x.oneCell' = true) (h : ∀ i a, l[i]? = some a → Rep w m a (xs.getD i undef)) : Rep w m (.agg l) (.agg xs)
  | tup (l : List AV) (xs : Array Value) (hl : l.length = xs.size) (h : ∀ i a, l[i]? = some a → Rep w m a (xs.getD i undef)) : Rep w m (.tup l) (.tuple xs)
  | ob (n len : Nat) (A : Option Addr) (c : Nat) (h : m.β n = some (.slice A len c)) : Rep w m (.ob n len) (.slice A len c)
  | ptr (n off g : Nat) (h : m.β n = some (.pointer (some ⟨g, 0, none⟩))) : Rep w m (.ptr n off) (.pointer (some ⟨g, off, none⟩))
  | elp (sz : Nat) (rows : List (List DV)) (b o i off : Nat) (cell : Nat → Nat → Value) (hsz : ∀ r ∈ rows, r.length = sz) (hi : i < rows.length) (hI : m.I b)
      (hcell : ∀ i j, i < rows.length → j < sz → w.cell? ⟨b, o + (i * sz + j), none⟩ = some (cell i j))
      (h1 : ∀ i j, i < rows.length → j < sz → (cell i j).oneCell' = true)
      (hrep : ∀ i r j a, rows[i]? = some r → r[j]? = some a → RD w m.I a (cell i j)) : Rep w m (.elp sz rows i off) (.pointer (some ⟨b, o + (i * sz + off), none⟩))
  | obp (n sz i off g len c : Nat) (h : m.β n = some (.slice (some ⟨g, 0, none⟩) len c)) : Rep w m (.obp n sz i off) (.pointer (some ⟨g, i * sz + off, none⟩))
  | fn (g : FuncId) (l : List AV) (xs : Array Value) (hl : l.length = xs.size) (h : ∀ i a, l[i]? = some a → Rep w m a (xs.getD i undef)) : Rep w m (.fn g l) (.func (.func g) #[] xs)
  | yl (n : Nat) (f : Fn) (fst cap : Array Value) (h : m.β n = some (.func f fst cap)) : Rep w m (.yl n) (.func f fst cap)
  | mp (n r : Nat) (h : m.β n = some (.map (some r))) : Rep w m (.mp n) (.map (some r))
  | bl (ct cf : Prop) (b : Bool) (h1 : b = true → ct) (h2 : b = false → cf) : Rep w m (.bl ct cf) (.bool b)
  | bf (g : FuncId) (l : List AV) (xs : Array Value) (hl : l.length = xs.size) (h : ∀ i a, l[i]? = some a → Rep w m a (xs.getD i undef)) : Rep w m (.bf g l) (.func (.func g) xs #[])

theorem RD.rep {w : World} {m : Mem} {d : DV} {x : Value} (h : RD w m.I d x) : Rep w m (ofD d) x := by
  cases d with
  | v y => cases h; exact .v _
  | sl sz rows => exact .sl _ _ _ h

theorem RD.ext {w w' : World} {I I' : Nat → Prop} {d : DV} {x : Value} (h : RD w I d x) (hs : ∀ b, I b → I' b) (hk : ∀ b, I b → w'.heap[b]? = w.heap[b]?) : RD w' I' d x := by
  induction h with
  | v x => exact .v x
  | sl0 sz A c hc => exact .sl0 sz A c hc
  | sl sz rows b o c cell hsz hlen hc hI hcell h1 _ ih =>
    exact .sl sz rows b o c cell hsz hlen hc (hs b hI) (fun i j hi hj => (World.cell?_of_block (w := w) (hk b hI)).trans (hcell i j hi hj)) h1 ih

theorem Rep.ext {w w' : World} {m m' : Mem} {a : AV} {x : Value} (h : Rep w m a x) (hs : ∀ b, m.I b → m'.I b) (hk : ∀ b, m.I b → w'.heap[b]? = w.heap[b]?) (hb : ∀ n x, m.β n = some x → m'.β n = some x) : Rep w' m' a x := by
  induction h with
  | v x => exact .v x
  | un x => exact .un x
  | sl sz rows x h => exact .sl _ _ _ (h.ext hs hk)
  | agg l xs hl h1 _ ih => exact .agg l xs hl h1 ih
  | tup l xs hl _ ih => exact .tup l xs hl ih
  | ob n len A c h => exact .ob n len A c (hb n _ h)
  | ptr n off g h => exact .ptr n off g (hb n _ h)
  | elp sz rows b o i off cell hsz hi hI hcell h1 hrep =>
    exact .elp sz rows b o i off cell hsz hi (hs b hI) (fun i j hi hj => (World.cell?_of_block (w := w) (hk b hI)).trans (hcell i j hi hj)) h1 (fun i r j a hr ha => (hrep i r j a hr ha).ext hs hk)
  | obp n sz i off g len c h => exact .obp n sz i off g len c (hb n _ h)
  | fn g l xs hl _ ih => exact .fn g l xs hl ih
  | yl n f fs cs h => exact .yl n f fs cs (hb n _ h)
  | mp n r h => exact .mp n r (hb n _ h)
  | bl ct cf b h1 h2 => exact .bl ct cf b h1 h2
  | bf g l xs hl _ ih => exact .bf g l xs hl ih

/-- An object of the call's own. -/
inductive Obj where
  | box (t : TypeId) (cells : List AV)
  | row (e : TypeId) (sz : Nat) (rows : List (List DV)) (fz : Bool)
  | opq (Φ : Value → (Nat → Prop) → (Nat → Prop) → World → Prop)
  | map (q : IntKind) (f : Int → Option DV)

/-- A map whose keys are integers. -/
def MapAt (w : World) (m : Mem) (q : IntKind) (f : Int → Option DV) (v : Value) : Prop :=
  ∃ g es clock, v = .map (some g) ∧ w.heap[g]? = some (.map es clock) ∧ Go.MapKept.Stamped es clock ∧ ¬ m.I g ∧
    (∀ e ∈ es.toList, ∃ x d, e.key = .int q x ∧ f x = some d ∧ RD w m.I d e.val) ∧ ∀ x d, f x = some d → ∃ e ∈ es.toList, e.key = .int q x

def RowAt (w : World) (m : Mem) (e sz : Nat) (rows : List (List DV)) (fz : Bool) (v : Value) : Prop :=
  (∀ r ∈ rows, r.length = sz) ∧
  ((v = .slice none 0 0 ∧ rows = []) ∨
   ∃ g cap cur, v = .slice (some ⟨g, 0, none⟩) rows.length cap ∧ w.heap[g]? = some (.cells cur e (0, 0)) ∧ rows.length ≤ cap ∧ cap ≤ maxLen ∧ cur.size = cap * sz ∧
    (∀ i r j a, rows[i]? = some r → r[j]? = some a → RD w m.I a (cur.getD (i * sz + j) undef)) ∧ (∀ i, i < rows.length * sz → (cur.getD i undef).oneCell' = true) ∧ (fz = true → m.I g) ∧ (fz = false → ¬ m.I g))

def BoxAt (w : World) (m : Mem) (t : TypeId) (cells : List AV) (v : Value) : Prop :=
  ∃ g cs, v = .pointer (some ⟨g, 0, none⟩) ∧ w.heap[g]? = some (.cells cs t (0, 0)) ∧ cs.size = cells.length ∧
    (∀ i a, cells[i]? = some a → Rep w m a (cs.getD i undef)) ∧ (∀ x ∈ cs, x.oneCell' = true) ∧ ¬ m.I g

/-- The world has gone on: what is never undone. -/
structure Later (w w' : World) : Prop where
  os : w'.os = w.os
  tape : w'.tape = w.tape
  output : w'.output = w.output
  size : w.heap.size ≤ w'.heap.size

/-- An opaque object: what it says holds of the world, and will hold as long as its blocks, and the immutable ones, are left alone. -/
def OpqAt (w : World) (m : Mem) (n : Nat) (v : Value) (Φ : Value → (Nat → Prop) → (Nat → Prop) → World → Prop) : Prop :=
  Φ v m.I (m.φ n) w ∧ (∀ b, m.φ n b → b < w.heap.size ∧ ¬ m.I b) ∧ ∀ I' w', (∀ b, m.I b → I' b) → (∀ b, m.φ n b → ¬ I' b) → Later w w' → (∀ b, m.φ n b ∨ m.I b → w'.heap[b]? = w.heap[b]?) → Φ v I' (m.φ n) w'

def ObAt (w : World) (m : Mem) (n : Nat) (v : Value) : Obj → Prop
  | .box t cells => BoxAt w m t cells v
  | .row e sz rows fz => RowAt w m e sz rows fz v
  | .opq Φ => OpqAt w m n v Φ
  | .map q f => MapAt w m q f v

/-- The block in which an object lies. -/
def blk : Value → Option Nat
  | .pointer (some a) => some a.block
  | .slice (some a) _ _ => some a.block
  | .map (some r) => some r
  | _ => none

/-- May the object be written? -/
def Obj.live : Obj → Bool
  | .row _ _ _ fz => !fz
  | _ => true

/-- The blocks of an object. -/
def foot (m : Mem) (n : Nat) (x : Value) : Obj → Nat → Prop
  | .opq _, b => m.φ n b
  | _, b => blk x = some b

/-- The block is one of a live object's. -/
def own (m : Mem) (ob : Nat → Option Obj) (b : Nat) : Prop := ∃ n o x, ob n = some o ∧ o.live = true ∧ m.β n = some x ∧ foot m n x o b

/-- The memory as the objects say it. -/
structure MR (m : Mem) (w : World) (ob : Nat → Option Obj) : Prop where
  imm : ∀ b, m.I b → b < w.heap.size
  obs : ∀ n o, ob n = some o → ∃ v, m.β n = some v ∧ ObAt w m n v o
  apart : ∀ (n n' : Nat) (o o' : Obj) (x x' : Value) (b : Nat), ob n = some o → ob n' = some o' → o.live = true → o'.live = true → n ≠ n' → m.β n = some x → m.β n' = some x' → foot m n x o b → ¬ foot m n' x' o' b

/-- The memory has grown: what could not be written was not; no object has moved. -/
structure Ext (w : World) (m : Mem) (ob : Nat → Option Obj) (w' : World) (m' : Mem) (ob' : Nat → Option Obj) : Prop where
  sub : ∀ b, m.I b → m'.I b
  grow : ∀ b, m'.I b → m.I b ∨ own m ob b ∨ w.heap.size ≤ b
  keep : ∀ b, b < w.heap.size → ¬ own m ob b → w'.heap[b]? = w.heap[b]?
  keepI : ∀ b, m.I b → w'.heap[b]? = w.heap[b]?
  beta : ∀ n x, m.β n = some x → m'.β n = some x
  owned : ∀ b, own m' ob' b → own m ob b ∨ w.heap.size ≤ b
  os : w'.os = w.os
  tape : w'.tape = w.tape
  output : w'.output = w.output
  size : w.heap.size ≤ w'.heap.size

section
variable {w w' w'' : World} {m m' m'' : Mem} {ob ob' ob'' : Nat → Option Obj}

theorem Ext.refl (w : World) (m : Mem) (ob : Nat → Option Obj) : Ext w m ob w m ob :=
  ⟨fun _ h => h, fun _ h => .inl h, fun _ _ _ => rfl, fun _ _ => rfl, fun _ _ h => h, fun _ h => .inl h, rfl, rfl, rfl, Nat.le_refl _⟩

theorem Ext.trans (h : Ext w m ob w' m' ob') (k : Ext w' m' ob' w'' m'' ob'') : Ext w m ob w'' m'' ob'' where
  sub b hb := k.sub b (h.sub b hb)
  grow b hb := by
    rcases k.grow b hb with h1 | h1 | h1
    · exact h.grow b h1
    · rcases h.owned b h1 with h2 | h2
      · exact .inr (.inl h2)
      · exact .inr (.inr h2)
    · exact .inr (.inr (Nat.le_trans h.size h1))
  keep b hb hn := by
    refine (k.keep b (Nat.lt_of_lt_of_le hb h.size) fun ho => ?_).trans (h.keep b hb hn)
    rcases h.owned b ho with h1 | h1
    · exact hn h1
    · omega
  keepI b hb := (k.keepI b (h.sub b hb)).trans (h.keepI b hb)
  beta n x hx := k.beta n x (h.beta n x hx)
  owned b hb := by
    rcases k.owned b hb with h1 | h1
    · exact h.owned b h1
    · exact .inr (Nat.le_trans h.size h1)
  os := k.os.trans h.os
  tape := k.tape.trans h.tape
  output := k.output.trans h.output
  size := Nat.le_trans h.size k.size

theorem Rep.of_ext {a : AV} {x : Value} (h : Rep w m a x) (e : Ext w m ob w' m' ob') : Rep w' m' a x := h.ext e.sub e.keepI e.beta
theorem RD.of_ext {a : DV} {x : Value} (h : RD w m.I a x) (e : Ext w m ob w' m' ob') : RD w' m'.I a x := RD.ext h e.sub e.keepI

theorem Ext.later (h : Ext w m ob w' m' ob') : Later w w' := ⟨h.os, h.tape, h.output, h.size⟩
theorem Later.refl (w : World) : Later w w := ⟨rfl, rfl, rfl, Nat.le_refl _⟩
theorem Later.trans {a b c : World} (h : Later a b) (k : Later b c) : Later a c := ⟨k.os.trans h.os, k.tape.trans h.tape, k.output.trans h.output, Nat.le_trans h.size k.size⟩

/-- An object whose blocks are left alone stays as it is. -/
theorem ObAt.later {n : Nat} {v : Value} {o : Obj} (h : ObAt w m n v o) (hs : ∀ b, m.I b → m'.I b) (hkI : ∀ b, m.I b → w'.heap[b]? = w.heap[b]?) (hb : ∀ n x, m.β n = some x → m'.β n = some x) (hl : Later w w') (hφ : m'.φ n = m.φ n) (hk : ∀ b, foot m n v o b → w'.heap[b]? = w.heap[b]?) (hn : ∀ b, foot m n v o b → o.live = true → ¬ m.I b → ¬ m'.I b) : ObAt w' m' n v o := by
  cases o with
  | box t cells =>
    obtain ⟨g, cs, rfl, hh, hsz, hr, h1, hI⟩ := h
    exact ⟨g, cs, rfl, (hk g rfl).trans hh, hsz, fun i a ha => (hr i a ha).ext hs hkI hb, h1, hn g rfl rfl hI⟩
  | row t sz rows fz =>
    obtain ⟨hsz, hh⟩ := h
    refine ⟨hsz, ?_⟩
    rcases hh with hh | ⟨g, cap, cur, rfl, hh, hlc, hc, hcs, hr, h1, hf, hnf⟩
    · exact .inl hh
    · exact .inr ⟨g, cap, cur, rfl, (hk g rfl).trans hh, hlc, hc, hcs, fun i r j a h2 h3 => RD.ext (hr i r j a h2 h3) hs hkI, h1, fun h => hs g (hf h), fun h => hn g rfl (by simp [Obj.live, h]) (hnf h)⟩
  | opq Φ =>
    obtain ⟨h1, h2, h3⟩ := h
    have hkk : ∀ b, m.φ n b ∨ m.I b → w'.heap[b]? = w.heap[b]? := fun b hb => hb.elim (hk b) (hkI b)
    show OpqAt w' m' n v Φ
    unfold OpqAt
    rw [hφ]
    have hnI : ∀ b, m.φ n b → ¬ m'.I b := fun b hb => hn b hb rfl (h2 b hb).2
    exact ⟨h3 m'.I w' hs hnI hl hkk, fun b hb => ⟨Nat.lt_of_lt_of_le (h2 b hb).1 hl.size, hnI b hb⟩,
      fun I'' w'' hs' hI hl' hw => h3 I'' w'' (fun b hb => hs' b (hs b hb)) hI (hl.trans hl') fun b hb => (hw b (hb.imp id (hs b))).trans (hkk b hb)⟩
  | map q f =>
    obtain ⟨g, es, clock, rfl, hh, hst, hI, he, hf⟩ := h
    refine ⟨g, es, clock, rfl, (hk g rfl).trans hh, hst, hn g rfl rfl hI, fun e hm => ?_, hf⟩
    obtain ⟨x, d, h1, h2, h3⟩ := he e hm
    exact ⟨x, d, h1, h2, h3.ext hs hkI⟩
theorem ObAt.of_ext {n : Nat} {v : Value} {o : Obj} (h : ObAt w m n v o) (e : Ext w m ob w' m' ob') (hφ : m'.φ n = m.φ n) (hk : ∀ b, foot m n v o b → w'.heap[b]? = w.heap[b]?) (hn : ∀ b, foot m n v o b → o.live = true → ¬ m.I b → ¬ m'.I b) : ObAt w' m' n v o :=
  h.later e.sub e.keepI e.beta e.later hφ hk hn

end

/-- The abstract state of one activation. -/
structure AS where
  tm : Nat → AV
  ob : Nat → Option Obj
  N : Nat

structure Rel (m : Mem) (w : World) (as : AS) (a : Act) : Prop where
  mr : MR m w as.ob
  size : a.tmps.size = as.N
  tm : ∀ t, Rep w m (as.tm t) (a.tmps.getD t undef)

/-- No object yet has a number from k on. -/
def Fr (k : Nat) (m : Mem) : Prop := ∀ n, k ≤ n → m.β n = none

def upd {α : Type} (f : Nat → α) (j : Nat) (v : α) : Nat → α := fun i => if i = j then v else f i
theorem upd_same {α : Type} (f : Nat → α) (j : Nat) (v : α) : upd f j v j = v := by simp [upd]
theorem upd_ne {α : Type} (f : Nat → α) (i j : Nat) (v : α) (h : i ≠ j) : upd f j v i = f i := by simp [upd, h]

end Go.Proofs.Ytfaekiaegebmbaa.Ab
