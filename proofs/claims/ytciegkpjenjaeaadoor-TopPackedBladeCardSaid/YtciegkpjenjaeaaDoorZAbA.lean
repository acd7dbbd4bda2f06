/- The abstract machine's values, memory and the relation to the model's worlds. No program in sight. What the operations that change no memory compute, in abstract values; that the model agrees. The operations that change no memory: the model computes what the abstract machine says. One law for every change of the memory: what is touched is a live object's, or new. -/
import Derived.WalkKit
import Derived.Lib.TrailingZeros
import Derived.ControlIn
import Derived.CallsIn
import Derived.RangeFuncIn
import Derived.Laws.AppendOwn
import Derived.MapKept
import Derived.Maps.RangeRun
import Derived.Laws.Cells
import Derived.Laws.Rows
import Derived.Laws.Small
import Derived.Laws.Slices
import Derived.Laws.Cover3
namespace Go.Proofs.YtciegkpjenjaeaaDoor.Ab
open Go Go.RowKit
set_option linter.unusedSimpArgs false
set_option linter.unusedVariables false

/-- What a cell of memory that cannot turn holds: a plain value, or a slice as its rows. -/
inductive DV where
  | v (x : Value)
  | sl (sz : Nat) (rows : List (List DV))

/-- An abstract value. -/
inductive AV where
  | v (x : Value)
  | sl (sz : Nat) (rows : List (List DV))
  | cl (sz : Nat) (rows : List (List DV))
  | agg (l : List AV)
  | tup (l : List AV)
  | ob (n len : Nat)
  | ptr (n off : Nat)
  | elp (sz : Nat) (rows : List (List DV)) (i off : Nat)
  | obp (n sz i off : Nat)
  | fn (g : FuncId) (cap : List AV)
  | yl (n : Nat)
  | mp (n : Nat)
  | bl (ct cf : Prop)
  | bf (g : FuncId) (fst : List AV)
  | fs (p : Int → Prop)
  | kp (b o : Nat)
  | pf (n len : Nat)
  | un

instance : Inhabited AV := ⟨.un⟩
instance : Inhabited DV := ⟨.v undef⟩

def ofD : DV → AV
  | .v x => .v x
  | .sl sz rows => .sl sz rows

/-- Immutable blocks; where the objects lie; the blocks of the objects that are opaque. -/
structure Mem where
  I : Nat → Prop
  β : Nat → Option Value
  φ : Nat → Nat → Prop

/-- What a datum says of a value of the model's. -/
inductive RD (w : World) (I : Nat → Prop) : DV → Value → Prop
  | v (x : Value) : RD w I (.v x) x
  | sl0 (sz : Nat) (A : Option Addr) (c : Nat) (hc : c ≤ maxLen) : RD w I (.sl sz []) (.slice A 0 c)
  | sl (sz : Nat) (rows : List (List DV)) (b o c : Nat) (cell : Nat → Nat → Value) (hsz : ∀ r ∈ rows, r.length = sz) (hlen : rows.length ≤ c) (hc : c ≤ maxLen) (hI : I b)
      (hcell : ∀ i j, i < rows.length → j < sz → w.cell? ⟨b, o + (i * sz + j), none⟩ = some (cell i j))
      (h1 : ∀ i j, i < rows.length → j < sz → (cell i j).oneCell' = true)
      (hrep : ∀ i r j a, rows[i]? = some r → r[j]? = some a → RD w I a (cell i j)) : RD w I (.sl sz rows) (.slice (some ⟨b, o, none⟩) rows.length c)

/-- The entries of a map that is a set of integers: each key stands there with 'true'. -/
structure SetE (es : Array MapEntry) (clock : Nat) (p : Int → Prop) : Prop where
  st : Go.MapKept.Stamped es clock
  key : ∀ e ∈ es.toList, ∃ x, e.key = .int .i64 x ∧ p x ∧ e.val = .bool true
  has : ∀ x, p x → ∃ e ∈ es.toList, e.key = .int .i64 x

/-- What an abstract value says of a value of the model's. -/
inductive Rep (w : World) (m : Mem) : AV → Value → Prop
  | v (x : Value) : Rep w m (.v x) x
  | un (x : Value) : Rep w m .un x
  | sl (sz : Nat) (rows : List (List DV)) (x : Value) (h : RD w m.I (.sl sz rows) x) : Rep w m (.sl sz rows) x
  | cl (sz : Nat) (rows : List (List DV)) (A : Option Addr) (h : RD w m.I (.sl sz rows) (.slice A rows.length rows.length)) : Rep w m (.cl sz rows) (.slice A rows.length rows.length)
  | agg (l : List AV) (xs : Array Value) (hl : l.length = xs.size) (h1 : ∀ x ∈ xs, x.oneCell' = true) (h : ∀ i a, l[i]? = some a → Rep w m a (xs.getD i undef)) : Rep w m (.agg l) (.agg xs)
  | tup (l : List AV) (xs : Array Value) (hl : l.length = xs.size) (h : ∀ i a, l[i]? = some a → Rep w m a (xs.getD i undef)) : Rep w m (.tup l) (.tuple xs)
  | ob (n len : Nat) (A : Option Addr) (c : Nat) (h : m.β n = some (.slice A len c)) (hz : A = none → len = 0) : Rep w m (.ob n len) (.slice A len c)
  | ptr (n off g : Nat) (h : m.β n = some (.pointer (some ⟨g, 0, none⟩))) : Rep w m (.ptr n off) (.pointer (some ⟨g, off, none⟩))
  | elp (sz : Nat) (rows : List (List DV)) (b o i off : Nat) (cell : Nat → Nat → Value) (hsz : ∀ r ∈ rows, r.length = sz) (hi : i < rows.length) (hI : m.I b)
      (hcell : ∀ i j, i < rows.length → j < sz → w.cell? ⟨b, o + (i * sz + j), none⟩ = some (cell i j))
      (h1 : ∀ i j, i < rows.length → j < sz → (cell i j).oneCell' = true)
      (hrep : ∀ i r j a, rows[i]? = some r → r[j]? = some a → RD w m.I a (cell i j)) : Rep w m (.elp sz rows i off) (.pointer (some ⟨b, o + (i * sz + off), none⟩))
  | obp (n sz i off g len c : Nat) (h : m.β n = some (.slice (some ⟨g, 0, none⟩) len c)) : Rep w m (.obp n sz i off) (.pointer (some ⟨g, i * sz + off, none⟩))
  | fn (g : FuncId) (l : List AV) (xs : Array Value) (hl : l.length = xs.size) (h : ∀ i a, l[i]? = some a → Rep w m a (xs.getD i undef)) : Rep w m (.fn g l) (.func (.func g) #[] xs)
  | yl (n : Nat) (f : Fn) (fst cap : Array Value) (h : m.β n = some (.func f fst cap)) : Rep w m (.yl n) (.func f fst cap)
  | mp (n r : Nat) (h : m.β n = some (.map (some r))) : Rep w m (.mp n) (.map (some r))
  | bl (ct cf : Prop) (b : Bool) (h1 : b = true → ct) (h2 : b = false → cf) : Rep w m (.bl ct cf) (.bool b)
  | bf (g : FuncId) (l : List AV) (xs : Array Value) (hl : l.length = xs.size) (h : ∀ i a, l[i]? = some a → Rep w m a (xs.getD i undef)) : Rep w m (.bf g l) (.func (.func g) xs #[])
  | kp (b o : Nat) : Rep w m (.kp b o) (.pointer (some ⟨b, o, none⟩))
  | pf (n len L c : Nat) (a : Addr) (hl : len ≤ L) (h : m.β n = some (.slice (some a) L c)) : Rep w m (.pf n len) (.slice (some a) len len)
  | fs (p : Int → Prop) (r : Nat) (es : Array MapEntry) (clock : Nat) (hI : m.I r) (hh : w.heap[r]? = some (.map es clock)) (hs : SetE es clock p) : Rep w m (.fs p) (.map (some r))

theorem RD.rep {w : World} {m : Mem} {d : DV} {x : Value} (h : RD w m.I d x) : Rep w m (ofD d) x := by
  cases d with
  | v y => cases h; exact .v _
  | sl sz rows => exact .sl _ _ _ h

theorem RD.ext {w w' : World} {I I' : Nat → Prop} {d : DV} {x : Value} (h : RD w I d x) (hs : ∀ b, I b → I' b) (hk : ∀ b, I b → w'.heap[b]? = w.heap[b]?) : RD w' I' d x := by
  induction h with
  | v x => exact .v x
  | sl0 sz A c hc => exact .sl0 sz A c hc
  | sl sz rows b o c cell hsz hlen hc hI hcell h1 _ ih =>
    exact .sl sz rows b o c cell hsz hlen hc (hs b hI) (fun i j hi hj => (World.cell?_of_block (w := w) (hk b hI)).trans (hcell i j hi hj)) h1 ih

theorem Rep.ext {w w' : World} {m m' : Mem} {a : AV} {x : Value} (h : Rep w m a x) (hs : ∀ b, m.I b → m'.I b) (hk : ∀ b, m.I b → w'.heap[b]? = w.heap[b]?) (hb : ∀ n x, m.β n = some x → m'.β n = some x) : Rep w' m' a x := by
  induction h with
  | v x => exact .v x
  | un x => exact .un x
  | sl sz rows x h => exact .sl _ _ _ (h.ext hs hk)
  | cl sz rows A h => exact .cl _ _ _ (h.ext hs hk)
  | agg l xs hl h1 _ ih => exact .agg l xs hl h1 ih
  | tup l xs hl _ ih => exact .tup l xs hl ih
  | ob n len A c h hz => exact .ob n len A c (hb n _ h) hz
  | ptr n off g h => exact .ptr n off g (hb n _ h)
  | elp sz rows b o i off cell hsz hi hI hcell h1 hrep =>
    exact .elp sz rows b o i off cell hsz hi (hs b hI) (fun i j hi hj => (World.cell?_of_block (w := w) (hk b hI)).trans (hcell i j hi hj)) h1 (fun i r j a hr ha => (hrep i r j a hr ha).ext hs hk)
  | obp n sz i off g len c h => exact .obp n sz i off g len c (hb n _ h)
  | fn g l xs hl _ ih => exact .fn g l xs hl ih
  | yl n f fs cs h => exact .yl n f fs cs (hb n _ h)
  | mp n r h => exact .mp n r (hb n _ h)
  | bl ct cf b h1 h2 => exact .bl ct cf b h1 h2
  | bf g l xs hl _ ih => exact .bf g l xs hl ih
  | kp b o => exact .kp b o
  | pf n len L c a hl h => exact .pf n len L c a hl (hb n _ h)
  | fs p r es clock hI hh hst => exact .fs p r es clock (hs r hI) ((hk r hI).trans hh) hst

/-- An object of the call's own. -/
inductive Obj where
  | box (t : TypeId) (cells : List AV)
  | row (e : TypeId) (sz : Nat) (rows : List (List DV)) (fz : Bool)
  | opq (Φ : Value → (Nat → Prop) → (Nat → Prop) → World → Prop)
  | map (q : IntKind) (f : Int → Option DV)

/-- A map whose keys are integers. -/
def MapAt (w : World) (m : Mem) (q : IntKind) (f : Int → Option DV) (v : Value) : Prop :=
  ∃ g es clock, v = .map (some g) ∧ w.heap[g]? = some (.map es clock) ∧ Go.MapKept.Stamped es clock ∧ ¬ m.I g ∧
    (∀ e ∈ es.toList, ∃ x d, e.key = .int q x ∧ f x = some d ∧ RD w m.I d e.val) ∧ ∀ x d, f x = some d → ∃ e ∈ es.toList, e.key = .int q x

def RowAt (w : World) (m : Mem) (e sz : Nat) (rows : List (List DV)) (fz : Bool) (v : Value) : Prop :=
  (∀ r ∈ rows, r.length = sz) ∧
  ((v = .slice none 0 0 ∧ rows = []) ∨
   ∃ g cap cur, v = .slice (some ⟨g, 0, none⟩) rows.length cap ∧ w.heap[g]? = some (.cells cur e (0, 0)) ∧ rows.length ≤ cap ∧ cap ≤ maxLen ∧ cur.size = cap * sz ∧
    (∀ i r j a, rows[i]? = some r → r[j]? = some a → RD w m.I a (cur.getD (i * sz + j) undef)) ∧ (∀ i, i < rows.length * sz → (cur.getD i undef).oneCell' = true) ∧ (fz = true → m.I g) ∧ (fz = false → ¬ m.I g))

def BoxAt (w : World) (m : Mem) (t : TypeId) (cells : List AV) (v : Value) : Prop :=
  ∃ g cs, v = .pointer (some ⟨g, 0, none⟩) ∧ w.heap[g]? = some (.cells cs t (0, 0)) ∧ cs.size = cells.length ∧
    (∀ i a, cells[i]? = some a → Rep w m a (cs.getD i undef)) ∧ (∀ x ∈ cs, x.oneCell' = true) ∧ ¬ m.I g

/-- The world has gone on: what is never undone. -/
structure Later (w w' : World) : Prop where
  os : w'.os = w.os
  tape : w'.tape = w.tape
  output : w'.output = w.output
  size : w.heap.size ≤ w'.heap.size

/-- An opaque object: what it says holds of the world, and will hold as long as its blocks, and the immutable ones, are left alone. -/
def OpqAt (w : World) (m : Mem) (n : Nat) (v : Value) (Φ : Value → (Nat → Prop) → (Nat → Prop) → World → Prop) : Prop :=
  Φ v m.I (m.φ n) w ∧ (∀ b, m.φ n b → b < w.heap.size ∧ ¬ m.I b) ∧ ∀ I' w', (∀ b, m.I b → I' b) → (∀ b, m.φ n b → ¬ I' b) → Later w w' → (∀ b, m.φ n b ∨ m.I b → w'.heap[b]? = w.heap[b]?) → Φ v I' (m.φ n) w'

def ObAt (w : World) (m : Mem) (n : Nat) (v : Value) : Obj → Prop
  | .box t cells => BoxAt w m t cells v
  | .row e sz rows fz => RowAt w m e sz rows fz v
  | .opq Φ => OpqAt w m n v Φ
  | .map q f => MapAt w m q f v

/-- The block in which an object lies. -/
def blk : Value → Option Nat
  | .pointer (some a) => some a.block
  | .slice (some a) _ _ => some a.block
  | .map (some r) => some r
  | _ => none

/-- May the object be written? -/
def Obj.live : Obj → Bool
  | .row _ _ _ fz => !fz
  | _ => true

/-- The blocks of an object. -/
def foot (m : Mem) (n : Nat) (x : Value) : Obj → Nat → Prop
  | .opq _, b => m.φ n b
  | _, b => blk x = some b

/-- The block is one of a live object's. -/
def own (m : Mem) (ob : Nat → Option Obj) (b : Nat) : Prop := ∃ n o x, ob n = some o ∧ o.live = true ∧ m.β n = some x ∧ foot m n x o b

/-- Package variables that nothing writes: the block, and what its cells hold. -/
def tabs : List (Nat × List Value) := [(0, Go.Lib.deBruijn64tab.map fun n : Nat => Value.int .u8 (n : Int))]
def TabOk (I : Nat → Prop) (w : World) : Prop := ∀ p ∈ tabs, I p.1 ∧ ∀ j v, p.2[j]? = some v → w.cell? ⟨p.1, j, none⟩ = some v
theorem TabOk.ext {I I' : Nat → Prop} {w w' : World} (h : TabOk I w) (hs : ∀ b, I b → I' b) (hk : ∀ b, I b → w'.heap[b]? = w.heap[b]?) : TabOk I' w' := fun p hp =>
  ⟨hs _ (h p hp).1, fun j v hj => (World.cell?_of_block (w := w) (hk _ (h p hp).1)).trans ((h p hp).2 j v hj)⟩
/-- What cannot turn lies in the memory; such variables are of it. -/
structure Imm (I : Nat → Prop) (w : World) : Prop where
  lt : ∀ b, I b → b < w.heap.size
  tab : TabOk I w
instance {I : Nat → Prop} {w : World} : CoeFun (Imm I w) fun _ => ∀ b, I b → b < w.heap.size := ⟨Imm.lt⟩

/-- The memory as the objects say it. -/
structure MR (m : Mem) (w : World) (ob : Nat → Option Obj) : Prop where
  imm : Imm m.I w
  obs : ∀ n o, ob n = some o → ∃ v, m.β n = some v ∧ ObAt w m n v o
  apart : ∀ (n n' : Nat) (o o' : Obj) (x x' : Value) (b : Nat), ob n = some o → ob n' = some o' → o.live = true → o'.live = true → n ≠ n' → m.β n = some x → m.β n' = some x' → foot m n x o b → ¬ foot m n' x' o' b

/-- The memory has grown: what could not be written was not; no object has moved. -/
structure Ext (w : World) (m : Mem) (ob : Nat → Option Obj) (w' : World) (m' : Mem) (ob' : Nat → Option Obj) : Prop where
  sub : ∀ b, m.I b → m'.I b
  grow : ∀ b, m'.I b → m.I b ∨ own m ob b ∨ w.heap.size ≤ b
  keep : ∀ b, b < w.heap.size → ¬ own m ob b → w'.heap[b]? = w.heap[b]?
  keepI : ∀ b, m.I b → w'.heap[b]? = w.heap[b]?
  beta : ∀ n x, m.β n = some x → m'.β n = some x
  owned : ∀ b, own m' ob' b → own m ob b ∨ w.heap.size ≤ b
  os : w'.os = w.os
  tape : w'.tape = w.tape
  output : w'.output = w.output
  size : w.heap.size ≤ w'.heap.size

section
variable {w w' w'' : World} {m m' m'' : Mem} {ob ob' ob'' : Nat → Option Obj}

theorem Ext.refl (w : World) (m : Mem) (ob : Nat → Option Obj) : Ext w m ob w m ob :=
  ⟨fun _ h => h, fun _ h => .inl h, fun _ _ _ => rfl, fun _ _ => rfl, fun _ _ h => h, fun _ h => .inl h, rfl, rfl, rfl, Nat.le_refl _⟩

theorem Ext.trans (h : Ext w m ob w' m' ob') (k : Ext w' m' ob' w'' m'' ob'') : Ext w m ob w'' m'' ob'' where
  sub b hb := k.sub b (h.sub b hb)
  grow b hb := by
    rcases k.grow b hb with h1 | h1 | h1
    · exact h.grow b h1
    · rcases h.owned b h1 with h2 | h2
      · exact .inr (.inl h2)
      · exact .inr (.inr h2)
    · exact .inr (.inr (Nat.le_trans h.size h1))
  keep b hb hn := by
    refine (k.keep b (Nat.lt_of_lt_of_le hb h.size) fun ho => ?_).trans (h.keep b hb hn)
    rcases h.owned b ho with h1 | h1
    · exact hn h1
    · omega
  keepI b hb := (k.keepI b (h.sub b hb)).trans (h.keepI b hb)
  beta n x hx := k.beta n x (h.beta n x hx)
  owned b hb := by
    rcases k.owned b hb with h1 | h1
    · exact h.owned b h1
    · exact .inr (Nat.le_trans h.size h1)
  os := k.os.trans h.os
  tape := k.tape.trans h.tape
  output := k.output.trans h.output
  size := Nat.le_trans h.size k.size

theorem Rep.of_ext {a : AV} {x : Value} (h : Rep w m a x) (e : Ext w m ob w' m' ob') : Rep w' m' a x := h.ext e.sub e.keepI e.beta
theorem RD.of_ext {a : DV} {x : Value} (h : RD w m.I a x) (e : Ext w m ob w' m' ob') : RD w' m'.I a x := RD.ext h e.sub e.keepI

theorem Ext.later (h : Ext w m ob w' m' ob') : Later w w' := ⟨h.os, h.tape, h.output, h.size⟩
theorem Later.refl (w : World) : Later w w := ⟨rfl, rfl, rfl, Nat.le_refl _⟩
theorem Later.trans {a b c : World} (h : Later a b) (k : Later b c) : Later a c := ⟨k.os.trans h.os, k.tape.trans h.tape, k.output.trans h.output, Nat.le_trans h.size k.size⟩

/-- An object whose blocks are left alone stays as it is. -/
theorem ObAt.later {n : Nat} {v : Value} {o : Obj} (h : ObAt w m n v o) (hs : ∀ b, m.I b → m'.I b) (hkI : ∀ b, m.I b → w'.heap[b]? = w.heap[b]?) (hb : ∀ n x, m.β n = some x → m'.β n = some x) (hl : Later w w') (hφ : m'.φ n = m.φ n) (hk : ∀ b, foot m n v o b → w'.heap[b]? = w.heap[b]?) (hn : ∀ b, foot m n v o b → o.live = true → ¬ m.I b → ¬ m'.I b) : ObAt w' m' n v o := by
  cases o with
  | box t cells =>
    obtain ⟨g, cs, rfl, hh, hsz, hr, h1, hI⟩ := h
    exact ⟨g, cs, rfl, (hk g rfl).trans hh, hsz, fun i a ha => (hr i a ha).ext hs hkI hb, h1, hn g rfl rfl hI⟩
  | row t sz rows fz =>
    obtain ⟨hsz, hh⟩ := h
    refine ⟨hsz, ?_⟩
    rcases hh with hh | ⟨g, cap, cur, rfl, hh, hlc, hc, hcs, hr, h1, hf, hnf⟩
    · exact .inl hh
    · exact .inr ⟨g, cap, cur, rfl, (hk g rfl).trans hh, hlc, hc, hcs, fun i r j a h2 h3 => RD.ext (hr i r j a h2 h3) hs hkI, h1, fun h => hs g (hf h), fun h => hn g rfl (by simp [Obj.live, h]) (hnf h)⟩
  | opq Φ =>
    obtain ⟨h1, h2, h3⟩ := h
    have hkk : ∀ b, m.φ n b ∨ m.I b → w'.heap[b]? = w.heap[b]? := fun b hb => hb.elim (hk b) (hkI b)
    show OpqAt w' m' n v Φ
    unfold OpqAt
    rw [hφ]
    have hnI : ∀ b, m.φ n b → ¬ m'.I b := fun b hb => hn b hb rfl (h2 b hb).2
    exact ⟨h3 m'.I w' hs hnI hl hkk, fun b hb => ⟨Nat.lt_of_lt_of_le (h2 b hb).1 hl.size, hnI b hb⟩,
      fun I'' w'' hs' hI hl' hw => h3 I'' w'' (fun b hb => hs' b (hs b hb)) hI (hl.trans hl') fun b hb => (hw b (hb.imp id (hs b))).trans (hkk b hb)⟩
  | map q f =>
    obtain ⟨g, es, clock, rfl, hh, hst, hI, he, hf⟩ := h
    refine ⟨g, es, clock, rfl, (hk g rfl).trans hh, hst, hn g rfl rfl hI, fun e hm => ?_, hf⟩
    obtain ⟨x, d, h1, h2, h3⟩ := he e hm
    exact ⟨x, d, h1, h2, h3.ext hs hkI⟩
theorem ObAt.of_ext {n : Nat} {v : Value} {o : Obj} (h : ObAt w m n v o) (e : Ext w m ob w' m' ob') (hφ : m'.φ n = m.φ n) (hk : ∀ b, foot m n v o b → w'.heap[b]? = w.heap[b]?) (hn : ∀ b, foot m n v o b → o.live = true → ¬ m.I b → ¬ m'.I b) : ObAt w' m' n v o :=
  h.later e.sub e.keepI e.beta e.later hφ hk hn

end

/-- The abstract state of one activation. -/
structure AS where
  tm : Nat → AV
  ob : Nat → Option Obj
  N : Nat

structure Rel (m : Mem) (w : World) (as : AS) (a : Act) : Prop where
  mr : MR m w as.ob
  size : a.tmps.size = as.N
  tm : ∀ t, Rep w m (as.tm t) (a.tmps.getD t undef)

/-- No object yet has a number from k on. -/
def Fr (k : Nat) (m : Mem) : Prop := ∀ n, k ≤ n → m.β n = none

def upd {α : Type} (f : Nat → α) (j : Nat) (v : α) : Nat → α := fun i => if i = j then v else f i
theorem upd_same {α : Type} (f : Nat → α) (j : Nat) (v : α) : upd f j v j = v := by simp [upd]
theorem upd_ne {α : Type} (f : Nat → α) (i j : Nat) (v : α) (h : i ≠ j) : upd f j v i = f i := by simp [upd, h]

end Go.Proofs.YtciegkpjenjaeaaDoor.Ab
namespace Go.Proofs.YtciegkpjenjaeaaDoor.Ab
open Go Go.RowKit
set_option linter.unusedSimpArgs false
set_option linter.unusedVariables false

/-! ### types -/
def elt (P : Program) (t : TypeId) : Option (TypeId × Nat) := match P.underlying t with
  | some (.slice e) => (P.info? e).map fun i => (e, i.size)
  | _ => none
def arr (P : Program) (t : TypeId) : Option (Nat × TypeId × Nat) := match P.underlying t with
  | some (.array n e) => (P.info? e).map fun i => (n, e, i.size)
  | _ => none
def fld (P : Program) (t : TypeId) (k : Nat) : Option (Nat × TypeId) := match P.underlying t with
  | some (.struct fs) => fs[k]?.bind fun f => if ((P.info? f.type).map (·.size)).getD 0 = 0 then none else some (f.offset, f.type)
  | _ => none
def tyc (P : Program) (t : TypeId) : Option (Bool × Nat) := match P.underlying t, P.info? t with
  | some d, some i => some (match d with | .struct _ | .array _ _ => true | _ => false, i.size)
  | _, _ => none

theorem elt_some {P : Program} {t e sz : Nat} (h : elt P t = some (e, sz)) : P.underlying t = some (.slice e) ∧ ∃ i, P.info? e = some i ∧ i.size = sz := by
  unfold elt at h
  split at h
  · rename_i e' hu
    obtain ⟨i, hi, he⟩ := Option.map_eq_some_iff.1 h
    simp only [Prod.mk.injEq] at he
    obtain ⟨rfl, rfl⟩ := he
    exact ⟨hu, i, hi, rfl⟩
  · cases h
theorem arr_some {P : Program} {t n e sz : Nat} (h : arr P t = some (n, e, sz)) : P.underlying t = some (.array n e) ∧ ∃ i, P.info? e = some i ∧ i.size = sz := by
  unfold arr at h
  split at h
  · rename_i n' e' hu
    obtain ⟨i, hi, he⟩ := Option.map_eq_some_iff.1 h
    simp only [Prod.mk.injEq] at he
    obtain ⟨rfl, rfl, rfl⟩ := he
    exact ⟨hu, i, hi, rfl⟩
  · cases h
theorem fld_some {P : Program} {t k o u : Nat} (h : fld P t k = some (o, u)) : ∃ fs f i, P.underlying t = some (.struct fs) ∧ fs[k]? = some f ∧ f.offset = o ∧ f.type = u ∧ P.info? u = some i ∧ i.size ≠ 0 := by
  unfold fld at h
  split at h
  · rename_i fs hu
    obtain ⟨f, hf, he⟩ := Option.bind_eq_some_iff.1 h
    split at he
    · cases he
    · rename_i hz
      cases he
      obtain ⟨i, hi⟩ : ∃ i, P.info? f.type = some i := by
        cases hi : P.info? f.type with
        | none => simp [hi] at hz
        | some i => exact ⟨i, rfl⟩
      exact ⟨fs, f, i, hu, hf, rfl, rfl, hi, by simpa [hi] using hz⟩
  · cases h
theorem tyc_isAgg {P : Program} {t k : Nat} {ag : Bool} (h : tyc P t = some (ag, k)) (w : World) : (isAgg t).run P w = .ok ag w ∧ (sizeOf t).run P w = .ok k w := by
  unfold tyc at h
  split at h
  · rename_i d i hd hi
    simp only [Option.some.injEq, Prod.mk.injEq] at h
    obtain ⟨rfl, rfl⟩ := h
    constructor
    · unfold isAgg
      rw [Sem.run_bind, run_underlying hd w]
      cases d <;> rfl
    · simp [sizeOf, typeInfo, hi]
  · cases h
theorem run_size_of {P : Program} {e : Nat} {i : TypeInfo} (hi : P.info? e = some i) (w : World) : (sizeOf e).run P w = .ok i.size w := by simp [sizeOf, typeInfo, hi]

/-- of a map's type: the kind of its keys, its elements' type -/
def mpt (P : Program) (t : TypeId) : Option (IntKind × TypeId) := match P.underlying t with
  | some (.map kt et) => match P.underlying kt with
    | some (.int q) => some (q, et)
    | _ => none
  | _ => none
theorem mpt_some {P : Program} {t et : TypeId} {q : IntKind} (h : mpt P t = some (q, et)) : ∃ kt, P.underlying t = some (.map kt et) ∧ P.underlying kt = some (.int q) := by
  unfold mpt at h
  split at h
  · rename_i kt et' h1
    split at h
    · rename_i q' h2; cases h; exact ⟨kt, h1, h2⟩
    · cases h
  · cases h

/-! ### sets of integers -/
theorem nodup_len : ∀ {l l' : List Int}, l.Nodup → (∀ x ∈ l, x ∈ l') → l.length ≤ l'.length
  | [], _, _, _ => Nat.zero_le _
  | a :: l, l', hn, hs => by
    have hn' := List.nodup_cons.1 hn
    have ha : a ∈ l' := hs a (by simp)
    have h1 := nodup_len (l' := l'.erase a) hn'.2 (fun x hx => (List.mem_erase_of_ne (fun e => hn'.1 (by rw [← e]; exact hx))).2 (hs x (by simp [hx])))
    have h2 := List.length_erase_of_mem ha
    have h3 : 0 < l'.length := List.length_pos_of_mem ha
    simp only [List.length_cons]
    omega
/-- a set's members, in some order -/
noncomputable def enumS (p : Int → Prop) : List Int := open Classical in if h : ∃ l : List Int, l.Nodup ∧ ∀ x, x ∈ l ↔ p x then Classical.choose h else []
noncomputable def cardS (p : Int → Prop) : Nat := (enumS p).length
noncomputable def inS (p : Int → Prop) (x : Int) : Bool := open Classical in decide (p x)
theorem inS_iff {p : Int → Prop} {x : Int} : inS p x = true ↔ p x := by simp [inS]
theorem enumS_spec {p : Int → Prop} {l : List Int} (h1 : l.Nodup) (h2 : ∀ x, x ∈ l ↔ p x) : (enumS p).Nodup ∧ (∀ x, x ∈ enumS p ↔ p x) ∧ cardS p = l.length := by
  have h : ∃ l : List Int, l.Nodup ∧ ∀ x, x ∈ l ↔ p x := ⟨l, h1, h2⟩
  have e : enumS p = Classical.choose h := by unfold enumS; rw [dif_pos h]
  obtain ⟨g1, g2⟩ := Classical.choose_spec h
  rw [← e] at g1 g2
  refine ⟨g1, g2, ?_⟩
  have a := nodup_len g1 (l' := l) fun x hx => (h2 x).2 ((g2 x).1 hx)
  have b := nodup_len h1 (l' := enumS p) fun x hx => (g2 x).2 ((h2 x).1 hx)
  unfold cardS
  omega
def keyI : MapEntry → Int := fun e => match e.key with
  | .int _ x => x
  | _ => 0
theorem SetE.enum {es : Array MapEntry} {clock : Nat} {p : Int → Prop} (h : SetE es clock p) : (es.toList.map keyI).Nodup ∧ ∀ x, x ∈ es.toList.map keyI ↔ p x := by
  have hk : ∀ e ∈ es.toList, e.key = .int .i64 (keyI e) := fun e he => by
    obtain ⟨x, h1, _⟩ := h.key e he
    simp [keyI, h1]
  constructor
  · have hp := ((Go.MapKept.stamped_iff es clock).1 h.st).2.2
    rw [List.nodup_iff_pairwise_ne, List.pairwise_map]
    exact hp.imp_of_mem (fun {a b} ha hb hab hne => hab (by rw [hk a ha, hk b hb, hne]))
  · intro x
    constructor
    · intro hx
      obtain ⟨e, he, rfl⟩ := List.mem_map.1 hx
      obtain ⟨y, h1, h2, _⟩ := h.key e he
      have : keyI e = y := by simp [keyI, h1]
      rw [this]; exact h2
    · intro hx
      obtain ⟨e, he, hke⟩ := h.has x hx
      exact List.mem_map.2 ⟨e, he, by simp [keyI, hke]⟩
theorem SetE.card {es : Array MapEntry} {clock : Nat} {p : Int → Prop} (h : SetE es clock p) : cardS p = es.size := by
  have := (enumS_spec h.enum.1 h.enum.2).2.2
  simpa using this
/-- A set's members are enumerable. -/
def FinS (p : Int → Prop) : Prop := ∃ l : List Int, l.Nodup ∧ ∀ x, x ∈ l ↔ p x
theorem FinS.enum {p : Int → Prop} (h : FinS p) : (enumS p).Nodup ∧ ∀ x, x ∈ enumS p ↔ p x := by
  obtain ⟨l, h1, h2⟩ := h
  exact ⟨(enumS_spec h1 h2).1, (enumS_spec h1 h2).2.1⟩

/-! ### values -/
def mkVal (ag : Bool) (cs : List AV) : AV := if ag then .agg cs else cs.headD .un
def ev (as : AS) : Operand → AV
  | .tmp t => as.tm t
  | .const x => .v x
  | .global _ => .un
  | .func f => .fn f []

theorem ev_rep {m : Mem} {w : World} {as : AS} {a : Act} (hR : Rel m w as a) (x : Operand) : Rep w m (ev as x) (a.eval x) := by
  cases x with
  | tmp t => exact hR.tm t
  | const v => exact .v v
  | global g => exact .un _
  | func f => exact .fn f [] #[] rfl (fun i a h => by simp at h)

/-! ### arithmetic -/
def binV (op : BinOp) (x y : Value) : Option (Prop × Value) := match op, x, y with
  | .shl, .int k a, .int _ b => some (0 ≤ b, .int k (k.wrap (a * 2 ^ min b.toNat k.bits)))
  | .shr, .int k a, .int _ b => some (0 ≤ b, .int k (a.fdiv (2 ^ min b.toNat k.bits)))
  | .add, .int k a, .int k' b => some (k = k', .int k (k.wrap (a + b)))
  | .sub, .int k a, .int k' b => some (k = k', .int k (k.wrap (a - b)))
  | .mul, .int k a, .int k' b => some (k = k', .int k (k.wrap (a * b)))
  | .quo, .int k a, .int k' b => some (k = k' ∧ b ≠ 0, .int k (k.wrap (a.tdiv b)))
  | .rem, .int k a, .int k' b => some (k = k' ∧ b ≠ 0, .int k (a.tmod b))
  | .eql, .int k a, .int k' b => some (k = k', .bool (a == b))
  | .neq, .int k a, .int k' b => some (k = k', .bool (a != b))
  | .lss, .int k a, .int k' b => some (k = k', .bool (decide (a < b)))
  | .leq, .int k a, .int k' b => some (k = k', .bool (decide (a ≤ b)))
  | .gtr, .int k a, .int k' b => some (k = k', .bool (decide (a > b)))
  | .geq, .int k a, .int k' b => some (k = k', .bool (decide (a ≥ b)))
  | .and, .int k a, .int k' b => some (k = k', .int k (bits .and k a b))
  | .or, .int k a, .int k' b => some (k = k', .int k (bits .or k a b))
  | .xor, .int k a, .int k' b => some (k = k', .int k (bits .xor k a b))
  | .andNot, .int k a, .int k' b => some (k = k', .int k (bits .andNot k a b))
  | _, _, _ => none

theorem binV_run {P : Program} {op : BinOp} {x y u : Value} {p : Prop} (h : binV op x y = some (p, u)) (hp : p) (t : TypeId) (ox oy : Operand) (w : World) :
    (do eqGuard op t ox oy x y; binOp op t x y : Sem Value).run P w = .ok u w := by
  unfold binV at h
  split at h <;> cases h
  all_goals first
    | (obtain ⟨rfl, h0⟩ := hp)
    | (obtain rfl := hp)
    | skip
  all_goals rw [Sem.run_bind, eqGuard_at_int]
  all_goals simp [binOp, Op.intArith, Op.intDiv, Op.intCmp, Op.intBits, Op.shift, bits, *]
  all_goals (intro h; omega)

/-! ### the operations that change no memory -/
/-- Of a struct type's '==': what it comes to, cell by cell. -/
def cellEq : Value → Value → Bool
  | .int _ a, .int _ b => a == b
  | .bool a, .bool b => a == b
  | .string a, .string b => a == b
  | _, _ => false
/-- The type's '==' is that of its cells, of these kinds ('ks': a sample value of each). -/
def sameKind : Value → Value → Bool
  | .int k _, .int k' _ => k == k'
  | .bool _, .bool _ => true
  | .string _, .string _ => true
  | _, _ => false
def kindsOk : List Value → List Value → Bool
  | [], [] => true
  | x :: xs, k :: ks => sameKind x k && kindsOk xs ks
  | _, _ => false
def EqT (P : Program) (t : TypeId) (ks : List Value) : Prop :=
  ∀ (w : World) (xs ys : List Value) (ox oy : Operand), kindsOk xs ks = true → kindsOk ys ks = true →
    (do eqGuard .eql t ox oy (.agg xs.toArray) (.agg ys.toArray); binOp .eql t (.agg xs.toArray) (.agg ys.toArray) : Sem Value).run P w = .ok (.bool ((xs.zip ys).all fun q => cellEq q.1 q.2)) w ∧
    (do eqGuard .neq t ox oy (.agg xs.toArray) (.agg ys.toArray); binOp .neq t (.agg xs.toArray) (.agg ys.toArray) : Sem Value).run P w = .ok (.bool (!((xs.zip ys).all fun q => cellEq q.1 q.2))) w

def vals : List AV → Option (List Value)
  | [] => some []
  | .v x :: l => (vals l).map (x :: ·)
  | _ :: _ => none

/-- A truth of which something is known; the truth itself, if it is. -/
noncomputable def blN (ct cf : Prop) : AV := open Classical in if ct ∧ ¬ cf then .v (.bool true) else if cf ∧ ¬ ct then .v (.bool false) else .bl ct cf
theorem blN_tf : blN True False = .v (.bool true) := by simp [blN]
theorem blN_ft : blN False True = .v (.bool false) := by simp [blN]
theorem Rep.blN {w : World} {m : Mem} {ct cf : Prop} {b : Bool} (h1 : b = true → ct) (h2 : b = false → cf) : Rep w m (blN ct cf) (.bool b) := by
  unfold Ab.blN
  split
  · rename_i h
    cases b with
    | true => exact .v _
    | false => exact absurd (h2 rfl) h.2
  · split
    · rename_i h
      cases b with
      | true => exact absurd (h1 rfl) h.2
      | false => exact .v _
    · exact .bl _ _ _ h1 h2

noncomputable def pBin (P : Program) (eq : TypeId → Option (List Value)) (op : BinOp) (t : TypeId) (x y : AV) : Option (Prop × AV) := match x, y with
  | .v a, .v b => match a, b with
    | .int k n, .int k' n' => (binV op (.int k n) (.int k' n')).map fun r => (r.1, .v r.2)
    | .bool p, .bool q => match op with
      | .eql => some (tyc P t = some (false, 1) ∧ P.underlying t = some .bool, .v (.bool (p == q)))
      | .neq => some (tyc P t = some (false, 1) ∧ P.underlying t = some .bool, .v (.bool (p != q)))
      | _ => none
    | .slice none 0 0, .slice none 0 0 => match op with
      | .eql => some ((elt P t).isSome = true, .v (.bool true))
      | .neq => some ((elt P t).isSome = true, .v (.bool false))
      | _ => none
    | _, _ => none
  | .agg l, .agg l' => match op, vals l, vals l', eq t with
    | .eql, some xs, some ys, some ks => some (EqT P t ks ∧ kindsOk xs ks = true ∧ kindsOk ys ks = true, .v (.bool ((xs.zip ys).all fun q => cellEq q.1 q.2)))
    | .neq, some xs, some ys, some ks => some (EqT P t ks ∧ kindsOk xs ks = true ∧ kindsOk ys ks = true, .v (.bool (!((xs.zip ys).all fun q => cellEq q.1 q.2))))
    | _, _, _, _ => none
  | .sl _ rows, .v (.slice none 0 0) => match op with
    | .eql => some ((elt P t).isSome = true, blN (rows = []) True)
    | .neq => some ((elt P t).isSome = true, blN True (rows = []))
    | _ => none
  | .ob _ len, .v (.slice none 0 0) => match op with
    | .eql => some ((elt P t).isSome = true, blN (len = 0) True)
    | .neq => some ((elt P t).isSome = true, blN True (len = 0))
    | _ => none
  | _, _ => none

def pUn (op : UnOp) (x : AV) : Option (Prop × AV) := match op, x with
  | .not, .v (.bool b) => some (True, .v (.bool !b))
  | .neg, .v (.int k n) => some (True, .v (.int k (k.wrap (0 - n))))
  | _, _ => none

def pConv (P : Program) (s t : TypeId) (x : AV) : Option (Prop × AV) := match x with
  | .v (.int _ n) => match P.underlying t with
    | some (.int k) => some ((P.underlying s).isSome = true, .v (.int k (k.wrap n)))
    | _ => none
  | _ => none

def pickV (c : Bool) (x y : AV) : Option (Prop × AV) := match x, y with
  | .v (.bool a), .v (.bool b) => some (True, .v (.bool (cond c a b)))
  | .v (.int k a), .v (.int k' b) => some (k = k', .v (.int k (if c then a else b)))
  | .v (.tuple _), y => some (c = false, y)
  | x, .v (.tuple _) => some (c = true, x)
  | _, _ => none

/-- a load from a slice's element: 'c': what else is asked -/
def elpLoad (c : Prop) (ag : Bool) (k sz : Nat) (rows : List (List DV)) (i off : Nat) : Option (Prop × AV) := some (c ∧ i < rows.length ∧ off + k ≤ sz ∧ (ag = false → k = 1), mkVal ag ((((rows.getD i []).drop off).take k).map ofD))

def pLoad (P : Program) (as : AS) (t : TypeId) (x : AV) : Option (Prop × AV) := match tyc P t with
  | none => none
  | some (ag, k) => match x with
    | .ptr n off => match as.ob n with
      | some (.box _ cells) => some (off + k ≤ cells.length ∧ (ag = false → k = 1), mkVal ag ((cells.drop off).take k))
      | _ => none
    | .elp sz rows i off => elpLoad True ag k sz rows i off
    | .obp n sz i off => match as.ob n with
      | some (.row _ sz' rows _) => elpLoad (sz' = sz) ag k sz rows i off
      | _ => none
    | _ => none

def pFieldAddr (P : Program) (t : TypeId) (k : Nat) (x : AV) : Option (Prop × AV) := match fld P t k with
  | none => none
  | some (o, _) => match x with
    | .ptr n off => some (True, .ptr n (off + o))
    | .elp sz rows i off => some (True, .elp sz rows i (off + o))
    | .obp n sz i off => some (True, .obp n sz i (off + o))
    | .v (.pointer (some ⟨b, off, none⟩)) => some (True, .v (.pointer (some ⟨b, off + o, none⟩)))
    | .kp b off => some (True, .kp b (off + o))
    | _ => none

def pField (P : Program) (t : TypeId) (k : Nat) (x : AV) : Option (Prop × AV) := match fld P t k with
  | none => none
  | some (o, u) => match tyc P u, x with
    | some (ag, n), .agg l => some (o + n ≤ l.length ∧ (ag = false → n = 1), mkVal ag ((l.drop o).take n))
    | _, _ => none

def pIndexAddr (P : Program) (as : AS) (t : TypeId) (x y : AV) : Option (Prop × AV) := match y with
  | .v (.int _ i) => match x with
    | .sl sz rows => match elt P t with
      | some (_, sz') => some (sz' = sz ∧ 0 ≤ i ∧ i < rows.length, .elp sz rows i.toNat 0)
      | none => none
    | .ob n len => match elt P t, as.ob n with
      | some (_, sz'), some (.row _ sz rows _) => some (sz' = sz ∧ 0 ≤ i ∧ i < rows.length, .obp n sz i.toNat 0)
      | _, _ => none
    | .ptr n off => match arr P t with
      | some (len, _, sz) => some (0 ≤ i ∧ i < len, .ptr n (off + i.toNat * sz))
      | none => none
    | .elp sz rows j off => match arr P t with
      | some (len, _, s) => some (0 ≤ i ∧ i < len, .elp sz rows j (off + i.toNat * s))
      | none => none
    | .obp n sz j off => match arr P t with
      | some (len, _, s) => some (0 ≤ i ∧ i < len, .obp n sz j (off + i.toNat * s))
      | none => none
    | .v (.slice (some ⟨b, o, none⟩) n _) => match elt P t with
      | some (_, sz) => some (0 ≤ i ∧ i < n, .v (.pointer (some ⟨b, o + i.toNat * sz, none⟩)))
      | none => none
    | _ => none
  | _ => none

def pIndex (P : Program) (t : TypeId) (x y : AV) : Option (Prop × AV) := match y, x with
  | .v (.int _ i), .agg l => match arr P t with
    | some (len, e, sz) => match tyc P e with
      | some (ag, n) => some (n = sz ∧ 0 ≤ i ∧ i < len ∧ i.toNat * sz + n ≤ l.length ∧ (ag = false → n = 1), mkVal ag ((l.drop (i.toNat * sz)).take n))
      | none => none
    | none => none
  | _, _ => none

def pExtract (k : Nat) (x : AV) : Option (Prop × AV) := match x with
  | .tup l => some (k < l.length, l.getD k .un)
  | _ => none

noncomputable def pLen (P : Program) (t : TypeId) (x : AV) : Option (Prop × AV) := match x with
  | .sl _ rows => some ((elt P t).isSome = true, .v (.int .i64 rows.length))
  | .ob _ len => some ((elt P t).isSome = true, .v (.int .i64 len))
  | .v (.slice _ n _) => some ((elt P t).isSome = true, .v (.int .i64 n))
  | .fs p => some ((mpt P t).isSome = true, .v (.int .i64 (cardS p)))
  | .agg _ => match arr P t with
    | some (n, _, _) => some (True, .v (.int .i64 n))
    | none => none
  | _ => none

def ints : List AV → Option (List Int)
  | [] => some []
  | .v (.int .i64 n) :: l => (ints l).map (n :: ·)
  | _ :: _ => none

def pMM (b : Builtin) (l : List AV) : Option (Prop × AV) := match ints l, b with
  | some (x :: r), .max => some (True, .v (.int .i64 (r.foldl max x)))
  | some (x :: r), .min => some (True, .v (.int .i64 (r.foldl min x)))
  | _, _ => none

/-- the capacity: of a nil slice alone -/
def pCap (P : Program) (t : TypeId) (x : AV) : Option (Prop × AV) := match x with
  | .v (.slice none 0 0) => some ((elt P t).isSome = true, .v (.int .i64 0))
  | _ => none

def pNil (x : AV) : Option (Prop × AV) := match x with
  | .ptr n off => some (True, .ptr n off)
  | .elp sz rows i off => some (True, .elp sz rows i off)
  | .obp n sz i off => some (True, .obp n sz i off)
  | .v (.pointer (some b)) => some (True, .v (.pointer (some b)))
  | .kp b o => some (True, .kp b o)
  | _ => none

def pSlice (P : Program) (t : TypeId) (x : AV) (lo hi mx : Option AV) : Option (Prop × AV) := match x with
  | .sl sz rows => match elt P t, mx with
    | some (_, sz'), none => match lo, hi with
      | none, none => some (sz' = sz, .sl sz rows)
      | some (.v (.int _ l)), none => some (sz' = sz ∧ 0 ≤ l ∧ l ≤ rows.length, .sl sz (rows.drop l.toNat))
      | none, some (.v (.int _ h)) => some (sz' = sz ∧ 0 ≤ h ∧ h ≤ rows.length, .sl sz (rows.take h.toNat))
      | some (.v (.int _ l)), some (.v (.int _ h)) => some (sz' = sz ∧ 0 ≤ l ∧ l ≤ h ∧ h ≤ rows.length, .sl sz ((rows.take h.toNat).drop l.toNat))
      | _, _ => none
    | _, _ => none
  | .v (.slice none 0 0) => match elt P t, lo, hi, mx with
    | some _, none, some (.v (.int _ h)), none => some (h = 0, .v (.slice none 0 0))
    | some _, some (.v (.int _ l)), none, none => some (l = 0, .v (.slice none 0 0))
    | some _, none, none, none => some (True, .v (.slice none 0 0))
    | _, _, _, _ => none
  | _ => none

/-- a slice without room behind it -/
def pClip (P : Program) (t : TypeId) (x h mx : AV) : Option (Prop × AV) := match x, h, mx with
  | .sl sz rows, .v (.int _ hv), .v (.int _ mv) => match elt P t with
    | some (_, sz') => some (sz' = sz ∧ hv = rows.length ∧ mv = rows.length, .cl sz rows)
    | none => none
  | _, _, _ => none
def pMake (g : FuncId) (fst cap : List AV) : Option (Prop × AV) := match fst, cap with
  | [], cap => some (True, .fn g cap)
  | fst, [] => some (True, .bf g fst)
  | _, _ => none
def evs (as : AS) (l : List Operand) : List AV := l.map (ev as)

noncomputable def pureOp (P : Program) (eq : TypeId → Option (List Value)) (as : AS) (o : Op) : Option (Prop × AV) := match o with
  | .move x | .assign x => some (True, ev as x)
  | .pick c a b => match ev as c with
    | .v (.bool cb) => pickV cb (ev as a) (ev as b)
    | _ => none
  | .nilCheck x => pNil (ev as x)
  | .binOp op t x y _ => pBin P eq op t (ev as x) (ev as y)
  | .unOp op _ x => pUn op (ev as x)
  | .convert s t x => pConv P s t (ev as x)
  | .load t x => pLoad P as t (ev as x)
  | .fieldAddr t x k => pFieldAddr P t k (ev as x)
  | .field t x k => pField P t k (ev as x)
  | .indexAddr t x y => pIndexAddr P as t (ev as x) (ev as y)
  | .index t x y => pIndex P t (ev as x) (ev as y)
  | .extract x k => pExtract k (ev as x)
  | .makeFunc (.func g) first cap => pMake g (evs as first.toList) (evs as cap.toList)
  | .slice t x none (some h) (some mx) => pClip P t (ev as x) (ev as h) (ev as mx)
  | .slice t x lo hi none => pSlice P t (ev as x) (lo.map (ev as)) (hi.map (ev as)) none
  | .call c => match c.callee with
    | .builtin .len => match c.args.toList, c.argTypes.toList with
      | [x], [t] => pLen P t (ev as x)
      | _, _ => none
    | .builtin .cap => match c.args.toList, c.argTypes.toList with
      | [x], [t] => pCap P t (ev as x)
      | _, _ => none
    | .builtin .max => pMM .max (evs as c.args.toList)
    | .builtin .min => pMM .min (evs as c.args.toList)
    | _ => none
  | _ => none

/-! ### the model agrees -/
section
variable {m : Mem} {w : World} {as : AS} {a : Act} {P : Program}

theorem rep_v {y x : Value} (h : Rep w m (.v y) x) : x = y := by cases h; rfl

theorem rep_vals : ∀ {l : List AV} {xs : List Value} {ys : Array Value}, vals l = some xs → l.length = ys.size → (∀ i a, l[i]? = some a → Rep w m a (ys.getD i undef)) → ys = xs.toArray := by
  intro l xs ys hv hl h
  apply Array.ext'
  simp only
  induction l generalizing xs ys with
  | nil =>
    simp only [vals, Option.some.injEq] at hv
    subst hv
    have : ys.toList.length = 0 := by simpa using hl.symm
    simpa using this
  | cons c l ih =>
    cases c with
    | v x =>
      simp only [vals, Option.map_eq_some_iff] at hv
      obtain ⟨r, hr, rfl⟩ := hv
      obtain ⟨ysl⟩ := ys
      cases ysl with
      | nil => simp at hl
      | cons y ysl =>
        have h0 := h 0 (.v x) rfl
        simp at h0
        cases h0
        have := ih (ys := ysl.toArray) hr (by simpa using hl) (fun i a hi => by have := h (i + 1) a (by simpa using hi); simpa using this)
        simp at this ⊢
        exact this
    | _ => simp [vals] at hv

theorem mk_rep {ag : Bool} {cs : List AV} {xs : List Value} (hl : cs.length = xs.length) (h1 : ∀ x ∈ xs, x.oneCell' = true) (h : ∀ i a, cs[i]? = some a → Rep w m a (xs.getD i undef)) (hag : ag = false → cs.length = 1) :
    Rep w m (mkVal ag cs) (if ag then .agg xs.toArray else xs.headD undef) := by
  unfold mkVal
  cases ag with
  | true => simp only [if_true]; exact .agg cs xs.toArray (by simpa using hl) (by simpa using h1) (fun i a hi => by have := h i a hi; simpa using this)
  | false =>
    simp only [Bool.false_eq_true, if_false]
    have h1' := hag rfl
    match cs, xs, hl, h1' with
    | [c], [x], _, _ => have := h 0 c rfl; simpa using this

/-- a load of k cells from consecutive places -/
theorem load_run {t k g o : Nat} {ag : Bool} (ht : tyc P t = some (ag, k)) (hag : ag = false → k = 1) (f : Nat → Value) (hc : ∀ j, j < k → w.cell? ⟨g, o + j, none⟩ = some (f j)) :
    (Instr.loadAt t (.pointer (some ⟨g, o, none⟩))).run P w = .ok (if ag then .agg ((List.range k).map f).toArray else ((List.range k).map f).headD undef) w := by
  obtain ⟨h1, h2⟩ := tyc_isAgg ht w
  have hadd : ∀ j, (⟨g, o, none⟩ : Addr).add j = ⟨g, o + j, none⟩ := fun j => Addr.add_lit g o j
  cases ag with
  | true =>
    have := run_loadCells (P := P) w ⟨g, o, none⟩ k f (fun j hj => by rw [hadd]; exact hc j hj)
    simp [Instr.loadAt, Instr.sureAddr, loadVar, h1, h2, this]
  | false =>
    have hk := hag rfl
    subst hk
    have := hc 0 (by omega)
    simp at this
    simp [Instr.loadAt, Instr.sureAddr, loadVar, h1, this]

theorem take_drop_get {α : Type} (l : List α) (o k j : Nat) (h : o + k ≤ l.length) (hj : j < k) : ((l.drop o).take k)[j]? = l[o + j]? := by
  rw [List.getElem?_take, if_pos hj, List.getElem?_drop]

theorem load_rep {k o : Nat} {ag : Bool} (cells : List AV) (f : Nat → Value) (hok : o + k ≤ cells.length) (hag : ag = false → k = 1) (h1 : ∀ j, j < k → (f j).oneCell' = true) (h : ∀ j a, j < k → cells[o + j]? = some a → Rep w m a (f j)) :
    Rep w m (mkVal ag ((cells.drop o).take k)) (if ag then .agg ((List.range k).map f).toArray else ((List.range k).map f).headD undef) := by
  refine mk_rep (by simp; omega) (by simpa using h1) (fun i a hi => ?_) (fun e => by have := hag e; simp; omega)
  have hik : i < k := by
    rcases Nat.lt_or_ge i k with h' | h'
    · exact h'
    · rw [List.getElem?_eq_none (by simp; omega)] at hi; cases hi
  rw [take_drop_get _ _ _ _ hok hik] at hi
  have := h i a hik hi
  simpa [List.getD, hik] using this

end

end Go.Proofs.YtciegkpjenjaeaaDoor.Ab
namespace Go.Proofs.YtciegkpjenjaeaaDoor.Ab
open Go Go.RowKit
set_option linter.unusedSimpArgs false
set_option linter.unusedVariables false
section
variable {m : Mem} {w : World} {as : AS} {a : Act} {P : Program}

theorem nil_run {t : TypeId} (ht : (elt P t).isSome = true) (A : Option Addr) (l c : Nat) (ox oy : Operand) :
    (do eqGuard .eql t ox oy (.slice A l c) (.slice none 0 0); binOp .eql t (.slice A l c) (.slice none 0 0) : Sem Value).run P w = .ok (.bool A.isNone) w ∧
    (do eqGuard .neq t ox oy (.slice A l c) (.slice none 0 0); binOp .neq t (.slice A l c) (.slice none 0 0) : Sem Value).run P w = .ok (.bool !A.isNone) w := by
  obtain ⟨⟨e, s⟩, he⟩ := Option.isSome_iff_exists.mp ht
  obtain ⟨hu, _⟩ := elt_some he
  have h := run_equal_slice_nil w t e A l c hu
  have h2 := run_neq_slice_nil w t e A l c hu
  constructor
  · rw [Sem.run_bind]
    simp [eqGuard, binOp, h]
  · rw [Sem.run_bind]
    simp [eqGuard, h2]

theorem pBin_run {eq : TypeId → Option (List Value)} {op : BinOp} {t : TypeId} {x y r : AV} {p : Prop} {vx vy : Value} (h : pBin P eq op t x y = some (p, r)) (hp : p) (hx : Rep w m x vx) (hy : Rep w m y vy) (ox oy : Operand) :
    ∃ u, (do eqGuard op t ox oy vx vy; binOp op t vx vy : Sem Value).run P w = .ok u w ∧ Rep w m r u := by
  unfold pBin at h
  split at h
  · rename_i ax ay
    cases hx; cases hy
    split at h
    · obtain ⟨q, hq, he⟩ := Option.map_eq_some_iff.1 h
      cases he
      exact ⟨q.2, binV_run hq hp t ox oy w, .v _⟩
    · split at h <;> cases h
      · refine ⟨_, ?_, .v _⟩
        rw [Sem.run_bind, eqGuard_at_bool]
        simp only [Sem.run_pure, Result.andThen_ok, run_eql_bool w t _ _ hp.2]
      · refine ⟨_, ?_, .v _⟩
        rw [Sem.run_bind, eqGuard_at_bool]
        simp only [Sem.run_pure, Result.andThen_ok, run_neq_bool w t _ _ hp.2]
        rfl
    · split at h <;> cases h
      · exact ⟨_, (nil_run hp none 0 0 ox oy).1, .v _⟩
      · exact ⟨_, (nil_run hp none 0 0 ox oy).2, .v _⟩
    · cases h
  · rename_i l l'
    cases hx with
    | agg _ xs hl h1 hx =>
    cases hy with
    | agg _ ys hl' h1' hy =>
    split at h
    · rename_i xv yv ks e1 e2 e3
      cases h
      obtain ⟨hE, h2, h3⟩ := hp
      have ex := rep_vals e1 hl hx
      have ey := rep_vals e2 hl' hy
      subst ex; subst ey
      exact ⟨_, (hE w xv yv ox oy h2 h3).1, .v _⟩
    · rename_i xv yv ks e1 e2 e3
      cases h
      obtain ⟨hE, h2, h3⟩ := hp
      have ex := rep_vals e1 hl hx
      have ey := rep_vals e2 hl' hy
      subst ex; subst ey
      exact ⟨_, (hE w xv yv ox oy h2 h3).2, .v _⟩
    · cases h
  · rename_i sz rows
    cases hy
    cases hx with
    | sl _ _ _ hx =>
    have hsl : ∃ A l c, vx = .slice A l c ∧ (A.isNone = true → rows = []) := by
      cases hx with
      | sl0 _ A c => exact ⟨_, _, _, rfl, fun _ => rfl⟩
      | sl => exact ⟨_, _, _, rfl, fun h => by simp at h⟩
    obtain ⟨A, l, c, rfl, hn⟩ := hsl
    split at h <;> cases h
    · exact ⟨_, (nil_run hp A l c ox oy).1, .blN hn (fun _ => trivial)⟩
    · exact ⟨_, (nil_run hp A l c ox oy).2, .blN (fun _ => trivial) (fun h => hn (by simpa using h))⟩
  · cases hy
    cases hx with
    | ob _ _ A c hb hz =>
    split at h <;> cases h
    · exact ⟨_, (nil_run hp A _ c ox oy).1, .blN (fun h => hz (by simpa using h)) (fun _ => trivial)⟩
    · exact ⟨_, (nil_run hp A _ c ox oy).2, .blN (fun _ => trivial) (fun h => hz (by simpa using h))⟩
  · cases h

theorem pUn_run {op : UnOp} {x r : AV} {p : Prop} {vx : Value} (h : pUn op x = some (p, r)) (hx : Rep w m x vx) : ∃ u, (Op.unary op vx).run P w = .ok u w ∧ Rep w m r u := by
  unfold pUn at h
  split at h <;> cases h <;> cases hx <;> exact ⟨_, by simp [Op.unary, Op.intArith], .v _⟩

theorem pConv_run {s t : TypeId} {x r : AV} {p : Prop} {vx : Value} (h : pConv P s t x = some (p, r)) (hp : p) (hx : Rep w m x vx) : ∃ u, (convert s t vx).run P w = .ok u w ∧ Rep w m r u := by
  unfold pConv at h
  split at h
  · split at h
    · rename_i k hk
      cases h
      cases hx
      obtain ⟨d, hd⟩ := Option.isSome_iff_exists.mp hp
      exact ⟨_, by simp [convert, run_underlying hd, run_underlying hk, Conv.intToInt], .v _⟩
    · cases h
  · cases h

theorem pickV_rep {c : Bool} {x y r : AV} {p : Prop} {vx vy : Value} (h : pickV c x y = some (p, r)) (hp : p) (hx : Rep w m x vx) (hy : Rep w m y vy) : Rep w m r (if c then vx else vy) := by
  unfold pickV at h
  split at h
  · cases h
    cases hx; cases hy
    cases c <;> exact .v _
  · cases h
    cases hx; cases hy
    obtain rfl := hp
    cases c <;> exact .v _
  · cases h
    obtain rfl := hp
    exact hy
  · cases h
    obtain rfl := hp
    exact hx
  · cases h

theorem row_bound {i j n sz : Nat} (hi : i < n) (hj : j < sz) : i * sz + j < n * sz := by
  have h1 : (i + 1) * sz ≤ n * sz := Nat.mul_le_mul_right sz hi
  rw [Nat.add_mul] at h1
  omega

theorem mem_getD {xs : Array Value} {i : Nat} (h : i < xs.size) : xs.getD i undef ∈ xs := by
  rw [← Array.getElem_eq_getD (h := h)]
  exact Array.getElem_mem h

theorem load_repD {k o : Nat} {ag : Bool} (cells : List DV) (f : Nat → Value) (hok : o + k ≤ cells.length) (hag : ag = false → k = 1) (h1 : ∀ j, j < k → (f j).oneCell' = true) (h : ∀ j a, j < k → cells[o + j]? = some a → RD w m.I a (f j)) :
    Rep w m (mkVal ag (((cells.drop o).take k).map ofD)) (if ag then .agg ((List.range k).map f).toArray else ((List.range k).map f).headD undef) := by
  have e : ((cells.drop o).take k).map ofD = ((cells.map ofD).drop o).take k := by rw [List.map_take, List.map_drop]
  rw [e]
  refine load_rep (cells.map ofD) f (by simpa using hok) hag h1 (fun j a hj ha => ?_)
  rw [List.getElem?_map, Option.map_eq_some_iff] at ha
  obtain ⟨d, hd, rfl⟩ := ha
  exact (h j d hj hd).rep

theorem pLoad_run (hR : Rel m w as a) {t : TypeId} {x r : AV} {p : Prop} {vx : Value} (h : pLoad P as t x = some (p, r)) (hp : p) (hx : Rep w m x vx) : ∃ u, (Instr.loadAt t vx).run P w = .ok u w ∧ Rep w m r u := by
  unfold pLoad at h
  split at h
  · cases h
  · rename_i ag k ht
    split at h
    · rename_i n off
      split at h
      · rename_i t' cells ho
        cases h
        cases hx with
        | ptr _ _ g hb =>
        obtain ⟨v, hv, g', cs, rfl, hheap, hsz, hrep, h1, _⟩ := hR.mr.obs n _ ho
        rw [hb] at hv
        cases hv
        refine ⟨_, load_run ht hp.2 (fun j => cs.getD (off + j) undef) (fun j hj => ?_), load_rep cells _ hp.1 hp.2 (fun j hj => h1 _ (mem_getD (by omega))) (fun j a hj ha => hrep _ _ ha)⟩
        rw [cell_of_row w g (off + j) cs t' (0, 0) hheap]
        have : off + j < cs.size := by omega
        simp [Array.getD, this]
      · cases h
    · rename_i sz rows i off
      unfold elpLoad at h
      cases h
      replace hp := hp.2.2
      cases hx with
      | elp _ _ b o _ _ cell hsz hi hI hcell h1 hrep =>
      have hr : (rows.getD i []).length = sz := by
        have : rows.getD i [] = rows[i] := by simp [List.getD, hi]
        rw [this]; exact hsz _ (List.getElem_mem hi)
      refine ⟨_, load_run ht hp.2 (fun j => cell i (off + j)) (fun j hj => ?_), load_repD (rows.getD i []) _ (by omega) hp.2 (fun j hj => h1 _ _ hi (by omega)) (fun j a hj ha => hrep i (rows.getD i []) _ _ (by simp [List.getD, hi]) ha)⟩
      have := hcell i (off + j) hi (by omega)
      rw [← this]; congr 2; omega
    · rename_i n sz i off
      split at h
      · rename_i e sz' rows fz ho
        unfold elpLoad at h
        cases h
        obtain ⟨rfl, hi, hk, hag⟩ := hp
        cases hx with
        | obp _ _ _ _ g len c hb =>
        obtain ⟨v, hv, hsz, hh⟩ := hR.mr.obs n _ ho
        rw [hb] at hv
        cases hv
        rcases hh with ⟨_, rfl⟩ | ⟨g', cap, cur, he, hheap, hlc, hcm, hcs, hrep, h1, _⟩
        · simp at hi
        injection he with he1 he2 he3
        cases he1
        have hr : (rows.getD i []).length = sz' := by
          have : rows.getD i [] = rows[i] := by simp [List.getD, hi]
          rw [this]; exact hsz _ (List.getElem_mem hi)
        have hb2 : ∀ j, j < k → i * sz' + (off + j) < cur.size := fun j hj => by
          rw [hcs]
          exact row_bound (by omega) (by omega)
        refine ⟨_, load_run ht hag (fun j => cur.getD (i * sz' + (off + j)) undef) (fun j hj => ?_), load_repD (rows.getD i []) _ (by omega) hag (fun j hj => h1 _ (row_bound hi (by omega))) (fun j a hj ha => hrep i (rows.getD i []) _ _ (by simp [List.getD, hi]) ha)⟩
        rw [cell_of_row w g _ cur e (0, 0) hheap]
        have := hb2 j hj
        simp [Array.getD, Nat.add_assoc, this]
      · cases h
    · cases h

theorem fieldPlace_run {f : Field} {i : TypeInfo} (hi : P.info? f.type = some i) (hz : i.size ≠ 0) (b o : Nat) : (fieldPlace ⟨b, o, none⟩ f).run P w = .ok ⟨b, o + f.offset, none⟩ w := by
  simp [fieldPlace, run_size_of hi, hz, Addr.add_lit]

theorem pFieldAddr_run {t : TypeId} {k : Nat} {x r : AV} {p : Prop} {vx : Value} (h : pFieldAddr P t k x = some (p, r)) (hx : Rep w m x vx) : ∃ u, (Instr.fieldAt t vx k).run P w = .ok u w ∧ Rep w m r u := by
  unfold pFieldAddr at h
  split at h
  · cases h
  · rename_i o ut hf
    obtain ⟨fs, f, i, hu, hk, rfl, rfl, hi, hz⟩ := fld_some hf
    split at h
    · cases h
      cases hx with
      | ptr n off g hb =>
      exact ⟨_, by simp [Instr.fieldAt, run_underlying hu, hk, Instr.sureAddr, fieldPlace_run hi hz], .ptr _ _ g hb⟩
    · cases h
      rename_i sz rows j off
      cases hx with
      | elp _ _ b o _ _ cell hsz hj hI hcell h1 hrep =>
      refine ⟨_, by simp [Instr.fieldAt, run_underlying hu, hk, Instr.sureAddr, fieldPlace_run hi hz]; rfl, ?_⟩
      have e : o + (j * sz + off) + f.offset = o + (j * sz + (off + f.offset)) := by omega
      rw [e]
      exact .elp _ _ b o j _ cell hsz hj hI hcell h1 hrep
    · cases h
      rename_i n sz j off
      cases hx with
      | obp _ _ _ _ g len c hb =>
      refine ⟨_, by simp [Instr.fieldAt, run_underlying hu, hk, Instr.sureAddr, fieldPlace_run hi hz]; rfl, ?_⟩
      have e : j * sz + off + f.offset = j * sz + (off + f.offset) := by omega
      rw [e]
      exact .obp _ _ j _ g len c hb
    · cases h
      cases hx
      exact ⟨_, by simp [Instr.fieldAt, run_underlying hu, hk, Instr.sureAddr, fieldPlace_run hi hz], .v _⟩
    · cases h
      cases hx
      exact ⟨_, by simp [Instr.fieldAt, run_underlying hu, hk, Instr.sureAddr, fieldPlace_run hi hz], .kp _ _⟩
    · cases h

theorem part_rep {u : TypeId} {ag : Bool} {n o : Nat} (ht : tyc P u = some (ag, n)) {l : List AV} {xs : Array Value} (hl : l.length = xs.size) (h1 : ∀ x ∈ xs, x.oneCell' = true) (hx : ∀ i a, l[i]? = some a → Rep w m a (xs.getD i undef))
    (hon : o + n ≤ l.length) (hag : ag = false → n = 1) : ∃ v, (part u xs o).run P w = .ok v w ∧ Rep w m (mkVal ag ((l.drop o).take n)) v := by
  obtain ⟨e1, e2⟩ := tyc_isAgg ht w
  have hr := load_rep (w := w) (m := m) (ag := ag) l (fun j => xs.getD (o + j) undef) hon hag (fun j hj => h1 _ (mem_getD (by omega))) (fun j a hj ha => hx _ _ ha)
  cases ag with
  | true =>
    refine ⟨.agg (xs.extract o (o + n)), by simp [part, e1, e2], ?_⟩
    simp only [if_true] at hr
    have : ((List.range n).map fun j => xs.getD (o + j) undef).toArray = xs.extract o (o + n) := by
      apply Array.ext
      · simp; omega
      · intro i h1 h2
        simp at h1 h2
        have : o + i < xs.size := by omega
        simp [Array.getD, this]
    rw [this] at hr
    exact hr
  | false =>
    have hn := hag rfl
    subst hn
    have ho : o < xs.size := by omega
    refine ⟨xs.getD o undef, by simp [part, e1, ho, Array.getD], ?_⟩
    simpa using hr

theorem pField_run {t : TypeId} {k : Nat} {x r : AV} {p : Prop} {vx : Value} (h : pField P t k x = some (p, r)) (hp : p) (hx : Rep w m x vx) : ∃ u, (Instr.field t vx k).run P w = .ok u w ∧ Rep w m r u := by
  unfold pField at h
  split at h
  · cases h
  · rename_i o ut hf
    obtain ⟨fs, f, i, hu, hk, rfl, rfl, hi, hz⟩ := fld_some hf
    split at h
    · rename_i ag n l ht
      cases h
      cases hx with
      | agg _ xs hl h1 hx =>
      obtain ⟨v, hv, hr⟩ := part_rep ht hl h1 hx hp.1 hp.2
      exact ⟨v, by simp [Instr.field, run_underlying hu, hk, asAgg, hv], hr⟩
    · cases h

theorem add_lit' (b o n : Nat) : (⟨b, o, none⟩ : Addr).add n = ⟨b, o + n, none⟩ := Addr.add_lit b o n

theorem pIndexAddr_run (hR : Rel m w as a) {t : TypeId} {x y r : AV} {p : Prop} {vx vy : Value} (h : pIndexAddr P as t x y = some (p, r)) (hp : p) (hx : Rep w m x vx) (hy : Rep w m y vy) : ∃ u, (Instr.indexAt t vx vy).run P w = .ok u w ∧ Rep w m r u := by
  unfold pIndexAddr at h
  split at h
  · rename_i k i
    cases hy
    split at h
    · rename_i sz rows
      split at h
      · rename_i e sz' ht
        cases h
        obtain ⟨rfl, h0, hlt⟩ := hp
        obtain ⟨hu, ti, hti, hts⟩ := elt_some ht
        cases hx with
        | sl _ _ _ hx =>
        cases hx with
        | sl0 _ A c => simp at hlt; omega
        | sl _ _ b o c cell hsz hlen hc hI hcell h1 hrep =>
          refine ⟨.pointer (some ⟨b, o + (i.toNat * sz' + 0), none⟩), ?_, .elp _ _ b o _ _ cell hsz (by omega) hI hcell h1 hrep⟩
          simp [Instr.indexAt, asIntOf, run_underlying hu, h0, hlt, run_size_of hti, hts, add_lit']
      · cases h
    · rename_i n len
      split at h
      · rename_i e sz' e' sz rows fz ht ho
        cases h
        obtain ⟨rfl, h0, hlt⟩ := hp
        obtain ⟨hu, ti, hti, hts⟩ := elt_some ht
        cases hx with
        | ob _ _ A c hb =>
        obtain ⟨v, hv, hsz, hh⟩ := hR.mr.obs n _ ho
        rw [hb] at hv
        cases hv
        rcases hh with ⟨_, rfl⟩ | ⟨g', cap, cur, he, _⟩
        · simp at hlt; omega
        injection he with he1 he2 he3
        subst he1; subst he2
        refine ⟨.pointer (some ⟨g', i.toNat * sz' + 0, none⟩), ?_, .obp _ _ _ _ g' _ _ hb⟩
        simp [Instr.indexAt, asIntOf, run_underlying hu, h0, hlt, run_size_of hti, hts, add_lit']
      · cases h
    · rename_i n off
      split at h
      · rename_i len e sz ht
        cases h
        obtain ⟨h0, hlt⟩ := hp
        obtain ⟨hu, ti, hti, hts⟩ := arr_some ht
        cases hx with
        | ptr _ _ g hb =>
        refine ⟨_, ?_, .ptr _ _ g hb⟩
        simp [Instr.indexAt, asIntOf, run_underlying hu, Instr.sureAddr, h0, hlt, run_size_of hti, hts, add_lit']
      · cases h
    · rename_i sz rows j off
      split at h
      · rename_i len e s ht
        cases h
        obtain ⟨h0, hlt⟩ := hp
        obtain ⟨hu, ti, hti, hts⟩ := arr_some ht
        cases hx with
        | elp _ _ b o _ _ cell hsz hj hI hcell h1 hrep =>
        refine ⟨.pointer (some ⟨b, o + (j * sz + (off + i.toNat * s)), none⟩), ?_, .elp _ _ b o j _ cell hsz hj hI hcell h1 hrep⟩
        simp [Instr.indexAt, asIntOf, run_underlying hu, Instr.sureAddr, h0, hlt, run_size_of hti, hts, add_lit', Nat.add_assoc]
      · cases h
    · rename_i n sz j off
      split at h
      · rename_i len e s ht
        cases h
        obtain ⟨h0, hlt⟩ := hp
        obtain ⟨hu, ti, hti, hts⟩ := arr_some ht
        cases hx with
        | obp _ _ _ _ g len c hb =>
        refine ⟨.pointer (some ⟨g, j * sz + (off + i.toNat * s), none⟩), ?_, .obp _ _ _ _ g _ _ hb⟩
        simp [Instr.indexAt, asIntOf, run_underlying hu, Instr.sureAddr, h0, hlt, run_size_of hti, hts, add_lit', Nat.add_assoc]
      · cases h
    · split at h
      · rename_i e sz ht
        cases h
        obtain ⟨h0, hlt⟩ := hp
        obtain ⟨hu, ti, hti, hts⟩ := elt_some ht
        cases hx
        exact ⟨_, by simp [Instr.indexAt, asIntOf, run_underlying hu, h0, hlt, run_size_of hti, hts, add_lit'], .v _⟩
      · cases h
    · cases h
  · cases h

theorem pIndex_run {t : TypeId} {x y r : AV} {p : Prop} {vx vy : Value} (h : pIndex P t x y = some (p, r)) (hp : p) (hx : Rep w m x vx) (hy : Rep w m y vy) : ∃ u, (Instr.index t vx vy).run P w = .ok u w ∧ Rep w m r u := by
  unfold pIndex at h
  split at h
  · rename_i k i l
    cases hy
    split at h
    · rename_i len e sz ht
      obtain ⟨hu, ti, hti, hts⟩ := arr_some ht
      split at h
      · rename_i ag n hte
        cases h
        obtain ⟨rfl, h0, hlt, hle, hag⟩ := hp
        cases hx with
        | agg _ xs hl h1 hx =>
        obtain ⟨v, hv, hr⟩ := part_rep hte hl h1 hx hle hag
        refine ⟨v, ?_, hr⟩
        simp [Instr.index, asIntOf, run_underlying hu, h0, hlt, run_size_of hti, hts, hv]
      · cases h
    · cases h
  · cases h

theorem pExtract_run {k : Nat} {x r : AV} {p : Prop} {vx : Value} (h : pExtract k x = some (p, r)) (hp : p) (hx : Rep w m x vx) : ∃ u, (Instr.extract vx k).run P w = .ok u w ∧ Rep w m r u := by
  unfold pExtract at h
  split at h
  · rename_i l
    cases h
    cases hx with
    | tup _ xs hl hx =>
    have hk : k < xs.size := by omega
    refine ⟨xs.getD k undef, by simp [Instr.extract, hk, Array.getD], hx k _ ?_⟩
    simp [List.getD, hp]
  · cases h

theorem pLen_run {t ty : TypeId} {x r : AV} {p : Prop} {vx : Value} (h : pLen P t x = some (p, r)) (hp : p) (hx : Rep w m x vx) : ∃ u, (Builtin.len_ #[t] ty #[vx]).run P w = .ok u w ∧ Rep w m r u := by
  unfold pLen at h
  split at h
  · rename_i sz rows
    cases h
    obtain ⟨⟨e, s⟩, he⟩ := Option.isSome_iff_exists.mp hp
    obtain ⟨hu, _⟩ := elt_some he
    cases hx with
    | sl _ _ _ hx =>
    cases hx with
    | sl0 _ A c => exact ⟨_, by simp [Builtin.len_, run_underlying hu, goInt], .v _⟩
    | sl => exact ⟨_, by simp [Builtin.len_, run_underlying hu, goInt], .v _⟩
  · rename_i n len
    cases h
    obtain ⟨⟨e, s⟩, he⟩ := Option.isSome_iff_exists.mp hp
    obtain ⟨hu, _⟩ := elt_some he
    cases hx with
    | ob => exact ⟨_, by simp [Builtin.len_, run_underlying hu, goInt], .v _⟩
  · rename_i A n c
    cases h
    obtain ⟨⟨e, s⟩, he⟩ := Option.isSome_iff_exists.mp hp
    obtain ⟨hu, _⟩ := elt_some he
    cases hx
    exact ⟨_, by simp [Builtin.len_, run_underlying hu, goInt], .v _⟩
  · rename_i q
    cases h
    obtain ⟨⟨k1, e⟩, he⟩ := Option.isSome_iff_exists.mp hp
    obtain ⟨kt, hu, _⟩ := mpt_some he
    cases hx with
    | fs _ r es clock hI hh hst => exact ⟨.int .i64 (cardS q), by simp [Builtin.len_, run_underlying hu, goInt, MapKept.run_getObj_map hh, hst.card], .v _⟩
  · rename_i l
    split at h
    · rename_i n e s ht
      cases h
      obtain ⟨hu, _⟩ := arr_some ht
      exact ⟨_, by simp [Builtin.len_, run_underlying hu, goInt], .v _⟩
    · cases h
  · cases h

theorem pNil_run {x r : AV} {p : Prop} {vx : Value} (h : pNil x = some (p, r)) (hx : Rep w m x vx) : (∃ b, vx = .pointer (some b)) ∧ Rep w m r vx := by
  unfold pNil at h
  split at h <;> cases h
  all_goals exact ⟨by cases hx; exact ⟨_, rfl⟩, hx⟩

theorem evs_rep (hR : Rel m w as a) : ∀ (l : List Operand) i c, (evs as l)[i]? = some c → Rep w m c ((l.map a.eval).getD i undef)
  | [], i, c, h => by simp [evs] at h
  | x :: l, 0, c, h => by
    simp [evs] at h
    subst h
    simpa using ev_rep hR x
  | x :: l, i + 1, c, h => by
    have := evs_rep hR l i c (by simpa [evs] using h)
    simpa using this

theorem ints_rep (hR : Rel m w as a) : ∀ (l : List Operand) (xs : List Int), ints (evs as l) = some xs → l.map a.eval = xs.map (fun n => Value.int .i64 n)
  | [], xs, h => by simp [evs, ints] at h; simp [h]
  | x :: l, xs, h => by
    have h0 := ev_rep hR x
    simp only [evs, List.map_cons] at h
    revert h h0
    generalize ev as x = c
    generalize he : a.eval x = y
    intro h0 h
    unfold ints at h
    split at h
    · rename_i hh; cases hh
    · rename_i n l' hh
      cases hh
      obtain ⟨r, hr, rfl⟩ := Option.map_eq_some_iff.1 h
      cases h0
      have := ints_rep hR l r hr
      simp [this, he]
    · cases h

theorem fold_max (x : Int) (r : List Int) : (r.map (fun n => Value.int .i64 n)).foldlM (m := Sem) Builtin.max2 (.int .i64 x) = pure (.int .i64 (r.foldl max x)) := by
  induction r generalizing x with
  | nil => rfl
  | cons y r ih =>
    have e : (if y > x then y else x) = max x y := by omega
    simp only [List.map_cons, List.foldlM_cons, Builtin.max2, pure_bind, List.foldl_cons, e]
    exact ih _
theorem fold_min (x : Int) (r : List Int) : (r.map (fun n => Value.int .i64 n)).foldlM (m := Sem) Builtin.min2 (.int .i64 x) = pure (.int .i64 (r.foldl min x)) := by
  induction r generalizing x with
  | nil => rfl
  | cons y r ih =>
    have e : (if y < x then y else x) = min x y := by omega
    simp only [List.map_cons, List.foldlM_cons, Builtin.min2, pure_bind, List.foldl_cons, e]
    exact ih _

/-- a part of a slice -/
theorem RD.cut {I : Nat → Prop} {sz len cap l h : Nat} {rows : List (List DV)} {A : Option Addr} (hx : RD w I (.sl sz rows) (.slice A len cap)) (hl : l ≤ h) (hh : h ≤ rows.length) :
    len = rows.length ∧ len ≤ cap ∧ RD w I (.sl sz ((rows.take h).drop l)) (sliced A l h cap sz) := by
  cases hx with
  | sl0 _ A c hc =>
    have h0 : h = 0 := by simpa using hh
    have l0 : l = 0 := by omega
    subst h0; subst l0
    refine ⟨rfl, by omega, ?_⟩
    simp only [sliced, List.take_nil, List.drop_nil]
    exact .sl0 _ _ _ (by omega)
  | sl _ _ b o c cell hsz hlen hc hI hcell h1 hrep =>
    refine ⟨rfl, hlen, ?_⟩
    by_cases hlh : l = h
    · subst hlh
      have : (rows.take l).drop l = [] := by simp
      rw [this]
      simp only [sliced, Nat.sub_self]
      exact .sl0 _ _ _ (by omega)
    · have hcl : ¬ cap = l := by omega
      have hlen' : ((rows.take h).drop l).length = h - l := by simp; omega
      simp only [sliced, if_neg hcl, Option.map_some, add_lit']
      rw [← hlen']
      have hget : ∀ i r, ((rows.take h).drop l)[i]? = some r → rows[l + i]? = some r := by
        intro i r hr
        rw [List.getElem?_drop, List.getElem?_take] at hr
        split at hr
        · exact hr
        · cases hr
      refine .sl _ _ b (o + l * sz) _ (fun i j => cell (l + i) j) (fun r hr => hsz r (List.mem_of_mem_take (List.mem_of_mem_drop hr))) (by omega) (by omega) hI (fun i j hi hj => ?_) (fun i j hi hj => h1 _ _ (by omega) hj) (fun i r j a hr ha => hrep _ r j a (hget i r hr) ha)
      rw [← hcell (l + i) j (by omega) hj, Nat.add_mul]
      congr 2
      omega

theorem elem_of {t e sz : Nat} (ht : elt P t = some (e, sz)) : P.underlying t = some (.slice (P.elem t)) ∧ (sizeOf (P.elem t)).run P w = .ok sz w := by
  obtain ⟨hu, i, hi, rfl⟩ := elt_some ht
  have : P.elem t = e := by simp [Program.elem, hu]
  rw [this]
  exact ⟨hu, run_size_of hi w⟩

theorem pSlice_run {t : TypeId} {x r : AV} {lo hi mx : Option AV} {p : Prop} {vx : Value} {vlo vhi : Option Value} (h : pSlice P t x lo hi mx = some (p, r)) (hp : p) (hx : Rep w m x vx)
    (hlo : ∀ a, lo = some a → ∃ v, vlo = some v ∧ Rep w m a v) (hlo' : lo = none → vlo = none) (hhi : ∀ a, hi = some a → ∃ v, vhi = some v ∧ Rep w m a v) (hhi' : hi = none → vhi = none) :
    ∃ u, (Instr.sliceAt t vx vlo vhi none).run P w = .ok u w ∧ Rep w m r u := by
  unfold pSlice at h
  split at h
  · rename_i sz rows
    cases hx with
    | sl _ _ _ hx =>
    split at h
    · rename_i e sz' ht
      obtain ⟨hu, hs⟩ := elem_of (w := w) ht
      have hvx : ∃ A c, vx = .slice A rows.length c := by cases hx <;> exact ⟨_, _, rfl⟩
      obtain ⟨A, c, rfl⟩ := hvx
      rw [run_sliceAt_slice w t _ _ _ _ hu]
      split at h
      · cases h
        obtain rfl := hp
        rw [hlo' rfl, hhi' rfl]
        obtain ⟨_, hc, hr⟩ := hx.cut (l := 0) (h := rows.length) (by omega) (by omega)
        refine ⟨_, by rw [run_slice_all w t A _ c hu, hs]; rfl, ?_⟩
        simp only [List.take_length, List.drop_zero] at hr
        exact .sl _ _ _ hr
      · rename_i k l
        cases h
        obtain ⟨rfl, h0, h1⟩ := hp
        obtain ⟨v, rfl, hv⟩ := hlo _ rfl
        cases hv
        rw [hhi' rfl]
        obtain ⟨_, hc, hr⟩ := hx.cut (l := l.toNat) (h := rows.length) (by omega) (by omega)
        refine ⟨_, by rw [run_slice_l w t A _ c hu _ _ h0 h1, hs]; rfl, ?_⟩
        simp only [List.take_length] at hr
        exact .sl _ _ _ hr
      · rename_i k l
        cases h
        obtain ⟨rfl, h0, h1⟩ := hp
        obtain ⟨v, rfl, hv⟩ := hhi _ rfl
        cases hv
        rw [hlo' rfl]
        obtain ⟨_, hc, hr⟩ := hx.cut (l := 0) (h := l.toNat) (by omega) (by omega)
        refine ⟨_, by rw [run_slice_h w t A _ c hu _ _ h0 (by omega), hs]; rfl, ?_⟩
        simp only [List.drop_zero] at hr
        exact .sl _ _ _ hr
      · rename_i k l k' h'
        cases h
        obtain ⟨rfl, h0, h1, h2⟩ := hp
        obtain ⟨v, rfl, hv⟩ := hlo _ rfl
        obtain ⟨v', rfl, hv'⟩ := hhi _ rfl
        cases hv; cases hv'
        obtain ⟨_, hc, hr⟩ := hx.cut (l := l.toNat) (h := h'.toNat) (by omega) (by omega)
        exact ⟨_, by rw [run_slice_lh w t A _ c hu _ _ _ _ h0 h1 (by omega), hs]; rfl, .sl _ _ _ hr⟩
      · cases h
    · cases h
  · have hvx : vx = .slice none 0 0 := rep_v hx
    subst hvx
    split at h
    · rename_i e k z ht
      cases h
      subst hp
      obtain ⟨⟨e1, s1⟩, rfl⟩ : ∃ q, e = q := ⟨_, rfl⟩
      obtain ⟨hu, hs⟩ := elem_of (w := w) ht
      obtain ⟨v, rfl, hv⟩ := hhi _ rfl
      cases hv
      rw [hlo' rfl, run_sliceAt_slice w t _ _ _ _ hu]
      exact ⟨_, by rw [run_slice_h w t none 0 0 hu _ _ (Int.le_refl _) (Int.le_refl _), hs]; rfl, .v _⟩
    · rename_i e k z ht
      cases h
      subst hp
      obtain ⟨⟨e1, s1⟩, rfl⟩ : ∃ q, e = q := ⟨_, rfl⟩
      obtain ⟨hu, hs⟩ := elem_of (w := w) ht
      obtain ⟨v, rfl, hv⟩ := hlo _ rfl
      cases hv
      rw [hhi' rfl, run_sliceAt_slice w t _ _ _ _ hu]
      exact ⟨_, by rw [run_slice_l w t none 0 0 hu _ _ (Int.le_refl _) (Int.le_refl _), hs]; rfl, .v _⟩
    · rename_i e ht
      cases h
      obtain ⟨⟨e1, s1⟩, rfl⟩ : ∃ q, e = q := ⟨_, rfl⟩
      obtain ⟨hu, hs⟩ := elem_of (w := w) ht
      rw [hlo' rfl, hhi' rfl, run_sliceAt_slice w t _ _ _ _ hu]
      exact ⟨_, by rw [run_slice_all w t none 0 0 hu, hs]; rfl, .v _⟩
    · cases h
  · cases h

/-- All of them at once. -/
theorem pure_run (hR : Rel m w as a) {eq : TypeId → Option (List Value)} {o : Oper} {r : AV} {p : Prop} (h : pureOp P eq as o.op = some (p, r)) (hp : p) : ∃ u, (execOp a.eval o).run P w = .ok (.value u) w ∧ Rep w m r u := by
  obtain ⟨dst, op, ty, pos, aft, gu⟩ := o
  simp only at h
  have E := ev_rep hR
  unfold pureOp at h
  split at h
  · cases h; exact ⟨_, rfl, E _⟩
  · cases h; exact ⟨_, rfl, E _⟩
  · rename_i c x y
    split at h
    · rename_i cb hc
      have e := E c
      rw [hc] at e
      have hr := pickV_rep h hp (E x) (E y)
      have e' : a.eval c = .bool cb := rep_v e
      exact ⟨_, by simp [execOp, e', asBool], hr⟩
    · cases h
  · rename_i x
    obtain ⟨⟨b, hb⟩, hr⟩ := pNil_run h (E x)
    exact ⟨.pointer (some b), by simp [execOp, hb], by rw [hb] at hr; exact hr⟩
  · obtain ⟨u, hu, hr⟩ := pBin_run h hp (E _) (E _) _ _
    exact ⟨u, by simp only [execOp]; rw [Sem.run_bind, hu]; rfl, hr⟩
  · obtain ⟨u, hu, hr⟩ := pUn_run h (E _)
    exact ⟨u, by simp only [execOp]; rw [Sem.run_bind, hu]; rfl, hr⟩
  · obtain ⟨u, hu, hr⟩ := pConv_run h hp (E _)
    exact ⟨u, by simp only [execOp]; rw [Sem.run_bind, hu]; rfl, hr⟩
  · obtain ⟨u, hu, hr⟩ := pLoad_run hR h hp (E _)
    exact ⟨u, by simp only [execOp]; rw [Sem.run_bind, hu]; rfl, hr⟩
  · obtain ⟨u, hu, hr⟩ := pFieldAddr_run h (E _)
    exact ⟨u, by simp only [execOp]; rw [Sem.run_bind, hu]; rfl, hr⟩
  · obtain ⟨u, hu, hr⟩ := pField_run h hp (E _)
    exact ⟨u, by simp only [execOp]; rw [Sem.run_bind, hu]; rfl, hr⟩
  · obtain ⟨u, hu, hr⟩ := pIndexAddr_run hR h hp (E _) (E _)
    exact ⟨u, by simp only [execOp]; rw [Sem.run_bind, hu]; rfl, hr⟩
  · obtain ⟨u, hu, hr⟩ := pIndex_run h hp (E _) (E _)
    exact ⟨u, by simp only [execOp]; rw [Sem.run_bind, hu]; rfl, hr⟩
  · obtain ⟨u, hu, hr⟩ := pExtract_run h hp (E _)
    exact ⟨u, by simp only [execOp]; rw [Sem.run_bind, hu]; rfl, hr⟩
  · rename_i g fst cap
    have hev : ∀ (l : Array Operand) i c, (evs as l.toList)[i]? = some c → Rep w m c ((l.map a.eval).getD i undef) := fun l i c hc => by
      have := evs_rep hR l.toList i c hc
      simpa [Array.getD_eq_getD_getElem?, List.getD_eq_getElem?_getD] using this
    have hx : (execOp a.eval ⟨dst, .makeFunc (.func g) fst cap, ty, pos, aft, gu⟩).run P w = .ok (.value (.func (.func g) (fst.map a.eval) (cap.map a.eval))) w := by simp [execOp, Instr.makeFunc]
    unfold pMake at h
    split at h
    · rename_i hf
      cases h
      have hf' : fst = #[] := by
        have : fst.toList = [] := by simpa [evs] using hf
        exact Array.toList_eq_nil_iff.1 this
      subst hf'
      refine ⟨_, hx, ?_⟩
      rw [Array.map_empty]
      exact .fn g _ _ (by simp [evs]) (hev cap)
    · rename_i hc _
      cases h
      have hc' : cap = #[] := by
        have : cap.toList = [] := by simpa [evs] using hc
        exact Array.toList_eq_nil_iff.1 this
      subst hc'
      refine ⟨_, hx, ?_⟩
      rw [Array.map_empty]
      exact .bf g _ _ (by simp [evs]) (hev fst)
    · cases h
  · rename_i t x hx mx
    have e1 := E x
    have e2 := E hx
    have e3 := E mx
    unfold pClip at h
    split at h
    · rename_i sz rows k1 hv k2 mv g1 g2 g3
      rw [g1] at e1
      rw [g2] at e2
      rw [g3] at e3
      split at h
      · rename_i e sz' ht
        cases h
        obtain ⟨rfl, rfl, rfl⟩ := hp
        obtain ⟨hu, hs⟩ := elem_of (w := w) ht
        have v2 := rep_v e2
        have v3 := rep_v e3
        generalize hvx : a.eval x = vx at e1
        cases e1 with
        | sl _ _ _ hd =>
        have hvx2 : ∃ A c, vx = .slice A rows.length c := by cases hd <;> exact ⟨_, _, rfl⟩
        obtain ⟨A, c, rfl⟩ := hvx2
        obtain ⟨_, hc, hr⟩ := hd.cut (l := 0) (h := rows.length) (by omega) (by omega)
        have hrun : (Instr.sliceAt t (.slice A rows.length c) none (some (.int k1 (rows.length : Int))) (some (.int k2 (rows.length : Int)))).run P w = .ok (.slice A rows.length rows.length) w := by
          rw [run_sliceAt_slice w t _ _ _ _ hu, run_slice_hm w t A _ c hu _ _ _ _ (by omega) (by omega) (by omega), hs]
          simp only [Result.andThen, sliced, Int.toNat_natCast, Nat.sub_zero]
          split
          · rfl
          · cases A with
            | none => rfl
            | some ad => simp [Addr.add]
        refine ⟨.slice A rows.length rows.length, ?_, ?_⟩
        · simp only [execOp, hvx, v2, v3, Option.map_none, Option.map_some]
          rw [Sem.run_bind, hrun]
          rfl
        · refine .cl _ _ _ ?_
          cases hd with
          | sl0 _ A c hc => exact .sl0 _ _ _ (by simp [maxLen])
          | sl _ _ b o c cell hsz hlen hc' hI hcell h1 hrep => exact .sl _ _ b o _ cell hsz (Nat.le_refl _) (by omega) hI hcell h1 hrep
      · cases h
    · cases h
  · rename_i t x lo hi
    obtain ⟨u, hu, hr⟩ := pSlice_run h hp (E x) (vlo := lo.map a.eval) (vhi := hi.map a.eval) (fun c hc => by
        obtain ⟨z, rfl, rfl⟩ := Option.map_eq_some_iff.1 hc
        exact ⟨_, rfl, E z⟩) (fun hn => by simpa using hn) (fun c hc => by
        obtain ⟨z, rfl, rfl⟩ := Option.map_eq_some_iff.1 hc
        exact ⟨_, rfl, E z⟩) (fun hn => by simpa using hn)
    exact ⟨u, by simp only [execOp, Option.map_none]; rw [Sem.run_bind, hu]; rfl, hr⟩
  · rename_i c
    obtain ⟨callee, args, atys⟩ := c
    simp only at h
    split at h
    · split at h
      · rename_i x t e1 e2
        have ea : args = #[x] := by simpa using congrArg List.toArray e1
        have et : atys = #[t] := by simpa using congrArg List.toArray e2
        subst ea; subst et
        obtain ⟨u, hu, hr⟩ := pLen_run (ty := ty) h hp (E x)
        exact ⟨u, by simp [execOp, resolve, invoke, builtin, hu], hr⟩
      · cases h
    · split at h
      · rename_i x t e1 e2
        have ea : args = #[x] := by simpa using congrArg List.toArray e1
        have et : atys = #[t] := by simpa using congrArg List.toArray e2
        subst ea; subst et
        unfold pCap at h
        split at h
        · rename_i hev
          cases h
          have ex := E x
          rw [hev] at ex
          have ex' : a.eval x = .slice none 0 0 := rep_v ex
          obtain ⟨⟨e, s⟩, he⟩ := Option.isSome_iff_exists.mp hp
          obtain ⟨hu, _⟩ := elem_of (w := w) he
          refine ⟨.int .i64 0, ?_, .v _⟩
          have hc := run_cap_slice w t ty none 0 0 hu
          simp only [execOp, resolve, invoke, builtin, Sem.run_bind, Sem.run_pure, Result.andThen_ok, List.map_toArray, List.map_cons, List.map_nil, ex', hc]
          rfl
        · cases h
      · cases h
    · unfold pMM at h
      split at h
      · rename_i x r hi _
        cases h
        have hE := ints_rep hR _ _ hi
        have e : args.map a.eval = ((x :: r).map (fun n => Value.int .i64 n)).toArray := by
          apply Array.ext'
          simpa using hE
        refine ⟨.int .i64 (r.foldl max x), ?_, .v _⟩
        simp only [execOp, resolve, invoke, builtin, Sem.run_bind, Sem.run_pure, Result.andThen_ok, e]
        simp only [Builtin.max_, List.map_cons, fold_max, Sem.run_pure, Result.andThen_ok]
      · rename_i hb; cases hb
      · cases h
    · unfold pMM at h
      split at h
      · rename_i hb; cases hb
      · rename_i x r hi _
        cases h
        have hE := ints_rep hR _ _ hi
        have e : args.map a.eval = ((x :: r).map (fun n => Value.int .i64 n)).toArray := by
          apply Array.ext'
          simpa using hE
        refine ⟨.int .i64 (r.foldl min x), ?_, .v _⟩
        simp only [execOp, resolve, invoke, builtin, Sem.run_bind, Sem.run_pure, Result.andThen_ok, e]
        simp only [Builtin.min_, List.map_cons, fold_min, Sem.run_pure, Result.andThen_ok]
      · cases h
    · cases h
  · cases h

end
end Go.Proofs.YtciegkpjenjaeaaDoor.Ab
namespace Go.Proofs.YtciegkpjenjaeaaDoor.Ab
open Go Go.RowKit
set_option linter.unusedSimpArgs false
set_option linter.unusedVariables false
section
variable {m m' : Mem} {w w' : World} {ob ob' : Nat → Option Obj}

theorem ObAt.blk_lt {n : Nat} {v : Value} {o : Obj} {b : Nat} (h : ObAt w m n v o) (hb : foot m n v o b) : b < w.heap.size := by
  cases o with
  | box t cells =>
    obtain ⟨g, cs, rfl, hh, _⟩ := h
    simp only [foot, blk, Option.some.injEq] at hb
    subst hb
    exact (Array.getElem?_eq_some_iff.mp hh).1
  | row t sz rows fz =>
    obtain ⟨_, ⟨rfl, _⟩ | ⟨g, cap, cur, rfl, hh, _⟩⟩ := h
    · simp [foot, blk] at hb
    · simp only [foot, blk, Option.some.injEq] at hb
      subst hb
      exact (Array.getElem?_eq_some_iff.mp hh).1
  | opq Φ => exact (h.2.1 b hb).1
  | map q f =>
    obtain ⟨g, es, clock, rfl, hh, _⟩ := h
    simp only [foot, blk, Option.some.injEq] at hb
    subst hb
    exact (Array.getElem?_eq_some_iff.mp hh).1

theorem ObAt.not_I {n : Nat} {v : Value} {o : Obj} {b : Nat} (h : ObAt w m n v o) (hl : o.live = true) (hb : foot m n v o b) : ¬ m.I b := by
  cases o with
  | box t cells =>
    obtain ⟨g, cs, rfl, hh, _, _, _, hn⟩ := h
    simp only [foot, blk, Option.some.injEq] at hb
    subst hb
    exact hn
  | row t sz rows fz =>
    obtain ⟨_, ⟨rfl, _⟩ | ⟨g, cap, cur, rfl, hh, _, _, _, _, _, _, hn⟩⟩ := h
    · simp [foot, blk] at hb
    · simp only [foot, blk, Option.some.injEq] at hb
      subst hb
      exact hn (by simpa [Obj.live] using hl)
  | opq Φ => exact (h.2.1 b hb).2
  | map q f =>
    obtain ⟨g, es, clock, rfl, hh, _, hn, _⟩ := h
    simp only [foot, blk, Option.some.injEq] at hb
    subst hb
    exact hn

theorem ObAt.is_I {n : Nat} {v : Value} {o : Obj} {b : Nat} (h : ObAt w m n v o) (hl : o.live = false) (hb : foot m n v o b) : m.I b := by
  cases o with
  | box t cells => simp [Obj.live] at hl
  | row t sz rows fz =>
    obtain ⟨_, ⟨rfl, _⟩ | ⟨g, cap, cur, rfl, hh, _, _, _, _, _, hi, _⟩⟩ := h
    · simp [foot, blk] at hb
    · simp only [foot, blk, Option.some.injEq] at hb
      subst hb
      exact hi (by simpa [Obj.live] using hl)
  | opq Φ => simp [Obj.live] at hl
  | map q f => simp [Obj.live] at hl

theorem own.not_I (hR : MR m w ob) {b : Nat} (h : own m ob b) : ¬ m.I b := by
  obtain ⟨n, o, x, ho, hl, hx, hb⟩ := h
  obtain ⟨v, hv, hat⟩ := hR.obs n o ho
  rw [hx] at hv
  cases hv
  exact hat.not_I hl hb

theorem own.lt (hR : MR m w ob) {b : Nat} (h : own m ob b) : b < w.heap.size := by
  obtain ⟨n, o, x, ho, hl, hx, hb⟩ := h
  obtain ⟨v, hv, hat⟩ := hR.obs n o ho
  rw [hx] at hv
  cases hv
  exact hat.blk_lt hb

/-- What has been done to the memory: the blocks T of the objects S may have turned; the objects D are new, or stand as said. -/
structure Chg (m : Mem) (w : World) (ob : Nat → Option Obj) (S T : Nat → Prop) (D : Nat → Prop) (m' : Mem) (w' : World) (ob' : Nat → Option Obj) : Prop where
  touch : ∀ b, T b → ∃ n o x, S n ∧ ob n = some o ∧ o.live = true ∧ m.β n = some x ∧ foot m n x o b
  heap : ∀ b, b < w.heap.size → ¬ T b → w'.heap[b]? = w.heap[b]?
  size : w.heap.size ≤ w'.heap.size
  os : w'.os = w.os
  tape : w'.tape = w.tape
  output : w'.output = w.output
  sub : ∀ b, m.I b → m'.I b
  grow : ∀ b, m'.I b → m.I b ∨ T b ∨ w.heap.size ≤ b
  imm : ∀ b, m'.I b → b < w'.heap.size
  beta : ∀ n x, m.β n = some x → m'.β n = some x
  phi : ∀ n, ¬ S n → ¬ D n → m'.φ n = m.φ n
  obs : ∀ n o, ob' n = some o → (ob n = some o ∧ ¬ S n ∧ ¬ D n) ∨ (D n ∧ ∃ v, m'.β n = some v ∧ ObAt w' m' n v o ∧ ∀ b, o.live = true → foot m' n v o b → T b ∨ w.heap.size ≤ b)
  apart : ∀ (n n' : Nat) (o o' : Obj) (x x' : Value) (b : Nat), D n → D n' → ob' n = some o → ob' n' = some o' → o.live = true → o'.live = true → n ≠ n' → m'.β n = some x → m'.β n' = some x' → foot m' n x o b → ¬ foot m' n' x' o' b

variable {S T D : Nat → Prop}

theorem foot_eq {m m' : Mem} {n : Nat} {x : Value} {o : Obj} {b : Nat} (h : m'.φ n = m.φ n) : foot m' n x o b ↔ foot m n x o b := by
  cases o with
  | opq Φ => simp only [foot, h]
  | _ => exact Iff.rfl

theorem Chg.ext (h : Chg m w ob S T D m' w' ob') (hR : MR m w ob) : Ext w m ob w' m' ob' := by
  have tow : ∀ b, T b → own m ob b := fun b hb => by
    obtain ⟨n, o, x, _, ho, hl, hx, hb'⟩ := h.touch b hb
    exact ⟨n, o, x, ho, hl, hx, hb'⟩
  refine ⟨h.sub, fun b hb => ?_, fun b hb hn => h.heap b hb fun ht => hn (tow b ht), fun b hb => h.heap b (hR.imm b hb) fun ht => own.not_I hR (tow b ht) hb, h.beta, fun b hb => ?_, h.os, h.tape, h.output, h.size⟩
  · rcases h.grow b hb with h1 | h1 | h1
    · exact .inl h1
    · exact .inr (.inl (tow b h1))
    · exact .inr (.inr h1)
  · obtain ⟨n, o, x, ho, hl, hx, hb'⟩ := hb
    rcases h.obs n o ho with ⟨h1, hS, hD⟩ | ⟨_, v, hv, hat, hT⟩
    · obtain ⟨v, hv, _⟩ := hR.obs n o h1
      have := h.beta n v hv
      rw [this] at hx
      cases hx
      exact .inl ⟨n, o, _, h1, hl, hv, (foot_eq (h.phi n hS hD)).1 hb'⟩
    · rw [hv] at hx
      cases hx
      rcases hT b hl hb' with h2 | h2
      · exact .inl (tow b h2)
      · exact .inr h2

theorem Chg.mr (h : Chg m w ob S T D m' w' ob') (hR : MR m w ob) : MR m' w' ob' := by
  have e := h.ext hR
  have old : ∀ n o, ob n = some o → ¬ S n → ∃ v, m.β n = some v ∧ m'.β n = some v ∧ ObAt w m n v o ∧ ∀ b, foot m n v o b → ¬ T b ∧ b < w.heap.size := fun n o ho hS => by
    obtain ⟨v, hv, hat⟩ := hR.obs n o ho
    refine ⟨v, hv, h.beta n v hv, hat, fun b hb => ⟨fun ht => ?_, hat.blk_lt hb⟩⟩
    obtain ⟨n', o', x', hS', ho', hl', hx', hb'⟩ := h.touch b ht
    have hne : n' ≠ n := fun e => hS (e ▸ hS')
    cases hl : o.live with
    | true => exact hR.apart n' n o' o x' v b ho' ho hl' hl hne hx' hv hb' hb
    | false =>
      obtain ⟨v', hv', hat'⟩ := hR.obs n' o' ho'
      rw [hx'] at hv'
      cases hv'
      exact hat'.not_I hl' hb' (hat.is_I hl hb)
  refine ⟨⟨h.imm, hR.imm.tab.ext h.sub e.keepI⟩, fun n o ho => ?_, fun n n' o o' x x' b ho ho' hl hl' hne hx hx' hb hb' => ?_⟩
  · rcases h.obs n o ho with ⟨h1, hS, hD⟩ | ⟨_, v, hv, hat, _⟩
    · obtain ⟨v, hv, hv', hat, hb⟩ := old n o h1 hS
      refine ⟨v, hv', hat.of_ext e (h.phi n hS hD) (fun b hbb => h.heap b (hb b hbb).2 (hb b hbb).1) (fun b hbb hl hI hI' => ?_)⟩
      rcases h.grow b hI' with h2 | h2 | h2
      · exact hI h2
      · exact (hb b hbb).1 h2
      · have := (hb b hbb).2; omega
    · exact ⟨v, hv, hat⟩
  · rcases h.obs n o ho with ⟨h1, hS, hD⟩ | ⟨hD, v, hv, hat, hT⟩
    · obtain ⟨v, hv, hv', hat, hbb⟩ := old n o h1 hS
      rw [hv'] at hx
      cases hx
      have hb0 := (foot_eq (h.phi n hS hD)).1 hb
      have hB := hbb b hb0
      rcases h.obs n' o' ho' with ⟨h2, hS2, hD2⟩ | ⟨hD2, u, hu, hat2, hT2⟩
      · obtain ⟨u, hu, hu', hat2, hbb2⟩ := old n' o' h2 hS2
        rw [hu'] at hx'
        cases hx'
        exact hR.apart n n' o o' _ _ b h1 h2 hl hl' hne hv hu hb0 ((foot_eq (h.phi n' hS2 hD2)).1 hb')
      · rw [hu] at hx'
        cases hx'
        rcases hT2 b hl' hb' with h3 | h3
        · exact hB.1 h3
        · omega
    · rw [hv] at hx
      cases hx
      rcases h.obs n' o' ho' with ⟨h2, hS2, hD2⟩ | ⟨hD2, u, hu, hat2, hT2⟩
      · obtain ⟨u, hu, hu', hat2, hbb2⟩ := old n' o' h2 hS2
        rw [hu'] at hx'
        cases hx'
        have hB := hbb2 b ((foot_eq (h.phi n' hS2 hD2)).1 hb')
        rcases hT b hl hb with h3 | h3
        · exact hB.1 h3
        · omega
      · exact h.apart n n' o o' _ x' b hD hD2 ho ho' hl hl' hne hv hx' hb hb'

end
end Go.Proofs.YtciegkpjenjaeaaDoor.Ab
