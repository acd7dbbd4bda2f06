/- What the operations that change no memory compute, in abstract values; that the model agrees. -/
import Derived.Test.YtfaekiaegebmbaaAbA
import Derived.Laws.Cells
import Derived.Laws.Rows
namespace Go.Proofs.Ytfaekiaegebmbaa.Ab
open Go Go.RowKit
set_option linter.unusedSimpArgs false
set_option linter.unusedVariables false

/-! ### types -/
def elt (P : Program) (t : TypeId) : Option (TypeId × Nat) := match P.underlying t with
  | some (.slice e) => (P.info? e).map fun i => (e, i.size)
  | _ => none
def arr (P : Program) (t : TypeId) : Option (Nat × TypeId × Nat) := match P.underlying t with
  | some (.array n e) => (P.info? e).map fun i => (n, e, i.size)
  | _ => none
def fld (P : Program) (t : TypeId) (k : Nat) : Option (Nat × TypeId) := match P.underlying t with
  | some (.struct fs) => fs[k]?.bind fun f => if ((P.info? f.type).map (·.size)).getD 0 = 0 then none else some (f.offset, f.type)
  | _ => none
def tyc (P : Program) (t : TypeId) : Option (Bool × Nat) := match P.underlying t, P.info? t with
  | some d, some i => some (match d with | .struct _ | .array _ _ => true | _ => false, i.size)
  | _, _ => none

theorem elt_some {P : Program} {t e sz : Nat} (h : elt P t = some (e, sz)) : P.underlying t = some (.slice e) ∧ ∃ i, P.info? e = some i ∧ i.size = sz := by
  unfold elt at h
  split at h
  · rename_i e' hu
    obtain ⟨i, hi, he⟩ := Option.map_eq_some_iff.1 h
    simp only [Prod.mk.injEq] at he
    obtain ⟨rfl, rfl⟩ := he
    exact ⟨hu, i, hi, rfl⟩
  · cases h
theorem arr_some {P : Program} {t n e sz : Nat} (h : arr P t = some (n, e, sz)) : P.underlying t = some (.array n e) ∧ ∃ i, P.info? e = some i ∧ i.size = sz := by
  unfold arr at h
  split at h
  · rename_i n' e' hu
    obtain ⟨i, hi, he⟩ := Option.map_eq_some_iff.1 h
    simp only [Prod.mk.injEq] at he
    obtain ⟨rfl, rfl, rfl⟩ := he
    exact ⟨hu, i, hi, rfl⟩
  · cases h
theorem fld_some {P : Program} {t k o u : Nat} (h : fld P t k = some (o, u)) : ∃ fs f i, P.underlying t = some (.struct fs) ∧ fs[k]? = some f ∧ f.offset = o ∧ f.type = u ∧ P.info? u = some i ∧ i.size ≠ 0 := by
  unfold fld at h
  split at h
  · rename_i fs hu
    obtain ⟨f, hf, he⟩ := Option.bind_eq_some_iff.1 h
    split at he
    · cases he
    · rename_i hz
      cases he
      obtain ⟨i, hi⟩ : ∃ i, P.info? f.type = some i := by
        cases hi : P.info? f.type with
        | none => simp [hi] at hz
        | some i => exact ⟨i, rfl⟩
      exact ⟨fs, f, i, hu, hf, rfl, rfl, hi, by simpa [hi] using hz⟩
  · cases h
theorem tyc_isAgg {P : Program} {t k : Nat} {ag : Bool} (h : tyc P t = some (ag, k)) (w : World) : (isAgg t).run P w = .ok ag w ∧ (sizeOf t).run P w = .ok k w := by
  unfold tyc at h
  split at h
  · rename_i d i hd hi
    simp only [Option.some.injEq, Prod.mk.injEq] at h
    obtain ⟨rfl, rfl⟩ := h
    constructor
    · unfold isAgg
      rw [Sem.run_bind, run_underlying hd w]
      cases d <;> rfl
    · simp [sizeOf, typeInfo, hi]
  · cases h
theorem run_size_of {P : Program} {e : Nat} {i : TypeInfo} (hi : P.info? e = some i) (w : World) : (sizeOf e).run P w = .ok i.size w := by simp [sizeOf, typeInfo, hi]

/-! ### values -/
def mkVal (ag : Bool) (cs : List AV) : AV := if ag then .agg cs else cs.headD .un
def ev (as : AS) : Operand → AV
  | .tmp t => as.tm t
  | .const x => .v x
  | .global _ => .un
  | .func f => .fn f []

theorem ev_rep {m : Mem} {w : World} {as : AS} {a : Act} (hR : Rel m w as a) (x : Operand) : Rep w m (ev as x) (a.eval x) := by
  cases x with
  | tmp t => exact hR.tm t
  | const v => exact .v v
  | global g => exact .un _
  | func f => exact .fn f [] #[] rfl (fun i a h => by simp at h)

/-! ### arithmetic -/
def binV (op : BinOp) (x y : Value) : Option (Prop × Value) := match op, x, y with
  | .shl, .int k a, .int _ b => some (0 ≤ b, .int k (k.wrap (a * 2 ^ min b.toNat k.bits)))
  | .shr, .int k a, .int _ b => some (0 ≤ b, .int k (a.fdiv (2 ^ min b.toNat k.bits)))
  | .add, .int k a, .int k' b => some (k = k', .int k (k.wrap (a + b)))
  | .sub, .int k a, .int k' b => some (k = k', .int k (k.wrap (a - b)))
  | .mul, .int k a, .int k' b => some (k = k', .int k (k.wrap (a * b)))
  | .quo, .int k a, .int k' b => some (k = k' ∧ b ≠ 0, .int k (k.wrap (a.tdiv b)))
  | .rem, .int k a, .int k' b => some (k = k' ∧ b ≠ 0, .int k (a.tmod b))
  | .eql, .int k a, .int k' b => some (k = k', .bool (a == b))
  | .neq, .int k a, .int k' b => some (k = k', .bool (a != b))
  | .lss, .int k a, .int k' b => some (k = k', .bool (decide (a < b)))
  | .leq, .int k a, .int k' b => some (k = k', .bool (decide (a ≤ b)))
  | .gtr, .int k a, .int k' b => some (k = k', .bool (decide (a > b)))
  | .geq, .int k a, .int k' b => some (k = k', .bool (decide (a ≥ b)))
  | .and, .int k a, .int k' b => some (k = k', .int k (bits .and k a b))
  | .or, .int k a, .int k' b => some (k = k', .int k (bits .or k a b))
  | .xor, .int k a, .int k' b => some (k = k', .int k (bits .xor k a b))
  | .andNot, .int k a, .int k' b => some (k = k', .int k (bits .andNot k a b))
  | _, _, _ => none

theorem binV_run {P : Program} {op : BinOp} {x y u : Value} {p : Prop} (h : binV op x y = some (p, u)) (hp : p) (t : TypeId) (ox oy : Operand) (w : World) :
    (do eqGuard op t ox oy x y; binOp op t x y : Sem Value).run P w = .ok u w := by
  unfold binV at h
  split at h <;> cases h
  all_goals first
    | (obtain ⟨rfl, h0⟩ := hp)
    | (obtain rfl := hp)
    | skip
  all_goals rw [Sem.run_bind, eqGuard_at_int]
  all_goals simp [binOp, Op.intArith, Op.intDiv, Op.intCmp, Op.intBits, Op.shift, bits, *]
  all_goals (intro h; omega)

/-! ### the operations that change no memory -/
/-- Of a struct type's '==': what it comes to, cell by cell. -/
def cellEq : Value → Value → Bool
  | .int _ a, .int _ b => a == b
  | .bool a, .bool b => a == b
  | .string a, .string b => a == b
  | _, _ => false
def plainCell : Value → Bool
  | .int _ _ | .bool _ | .string _ => true
  | _ => false
/-- The type's '==' is that of its cells, of these kinds ('ks': a sample value of each). -/
def sameKind : Value → Value → Bool
  | .int k _, .int k' _ => k == k'
  | .bool _, .bool _ => true
  | .string _, .string _ => true
  | _, _ => false
def kindsOk : List Value → List Value → Bool
  | [], [] => true
  | x :: xs, k :: ks => sameKind x k && kindsOk xs ks
  | _, _ => false
def EqT (P : Program) (t : TypeId) (ks : List Value) : Prop :=
  ∀ (w : World) (xs ys : List Value) (ox oy : Operand), kindsOk xs ks = true → kindsOk ys ks = true →
    (do eqGuard .eql t ox oy (.agg xs.toArray) (.agg ys.toArray); binOp .eql t (.agg xs.toArray) (.agg ys.toArray) : Sem Value).run P w = .ok (.bool ((xs.zip ys).all fun q => cellEq q.1 q.2)) w ∧
    (do eqGuard .neq t ox oy (.agg xs.toArray) (.agg ys.toArray); binOp .neq t (.agg xs.toArray) (.agg ys.toArray) : Sem Value).run P w = .ok (.bool (!((xs.zip ys).all fun q => cellEq q.1 q.2))) w

def vals : List AV → Option (List Value)
  | [] => some []
  | .v x :: l => (vals l).map (x :: ·)
  | _ :: _ => none

def pBin (P : Program) (eq : TypeId → Option (List Value)) (op : BinOp) (t : TypeId) (x y : AV) : Option (Prop × AV) := match x, y with
  | .v a, .v b => match a, b with
    | .int k n, .int k' n' => (binV op (.int k n) (.int k' n')).map fun r => (r.1, .v r.2)
    | .bool p, .bool q => match op with
      | .eql => some (tyc P t = some (false, 1) ∧ P.underlying t = some .bool, .v (.bool (p == q)))
      | .neq => some (tyc P t = some (false, 1) ∧ P.underlying t = some .bool, .v (.bool (p != q)))
      | _ => none
    | .slice none 0 0, .slice none 0 0 => match op with
      | .eql => some ((elt P t).isSome = true, .v (.bool true))
      | .neq => some ((elt P t).isSome = true, .v (.bool false))
      | _ => none
    | _, _ => none
  | .agg l, .agg l' => match op, vals l, vals l', eq t with
    | .eql, some xs, some ys, some ks => some (EqT P t ks ∧ kindsOk xs ks = true ∧ kindsOk ys ks = true, .v (.bool ((xs.zip ys).all fun q => cellEq q.1 q.2)))
    | .neq, some xs, some ys, some ks => some (EqT P t ks ∧ kindsOk xs ks = true ∧ kindsOk ys ks = true, .v (.bool (!((xs.zip ys).all fun q => cellEq q.1 q.2))))
    | _, _, _, _ => none
  | .sl _ rows, .v (.slice none 0 0) => match op with
    | .eql => some ((elt P t).isSome = true, .bl (rows = []) True)
    | .neq => some ((elt P t).isSome = true, .bl True (rows = []))
    | _ => none
  | .ob _ _, .v (.slice none 0 0) => match op with
    | .eql => some ((elt P t).isSome = true, .bl True True)
    | .neq => some ((elt P t).isSome = true, .bl True True)
    | _ => none
  | _, _ => none

def pUn (op : UnOp) (x : AV) : Option (Prop × AV) := match op, x with
  | .not, .v (.bool b) => some (True, .v (.bool !b))
  | .neg, .v (.int k n) => some (True, .v (.int k (k.wrap (0 - n))))
  | _, _ => none

def pConv (P : Program) (s t : TypeId) (x : AV) : Option (Prop × AV) := match x with
  | .v (.int _ n) => match P.underlying t with
    | some (.int k) => some ((P.underlying s).isSome = true, .v (.int k (k.wrap n)))
    | _ => none
  | _ => none

def pickV (c : Bool) (x y : AV) : Option (Prop × AV) := match x, y with
  | .v (.bool a), .v (.bool b) => some (True, .v (.bool (cond c a b)))
  | .v (.int k a), .v (.int k' b) => some (k = k', .v (.int k (if c then a else b)))
  | .v (.tuple _), y => some (c = false, y)
  | x, .v (.tuple _) => some (c = true, x)
  | _, _ => none

/-- a load from a slice's element: 'c': what else is asked -/
def elpLoad (c : Prop) (ag : Bool) (k sz : Nat) (rows : List (List DV)) (i off : Nat) : Option (Prop × AV) := some (c ∧ i < rows.length ∧ off + k ≤ sz ∧ (ag = false → k = 1), mkVal ag ((((rows.getD i []).drop off).take k).map ofD))

def pLoad (P : Program) (as : AS) (t : TypeId) (x : AV) : Option (Prop × AV) := match tyc P t with
  | none => none
  | some (ag, k) => match x with
    | .ptr n off => match as.ob n with
      | some (.box _ cells) => some (off + k ≤ cells.length ∧ (ag = false → k = 1), mkVal ag ((cells.drop off).take k))
      | _ => none
    | .elp sz rows i off => elpLoad True ag k sz rows i off
    | .obp n sz i off => match as.ob n with
      | some (.row _ sz' rows _) => elpLoad (sz' = sz) ag k sz rows i off
      | _ => none
    | _ => none

def pFieldAddr (P : Program) (t : TypeId) (k : Nat) (x : AV) : Option (Prop × AV) := match fld P t k with
  | none => none
  | some (o, _) => match x with
    | .ptr n off => some (True, .ptr n (off + o))
    | .elp sz rows i off => some (True, .elp sz rows i (off + o))
    | .obp n sz i off => some (True, .obp n sz i (off + o))
    | _ => none

def pField (P : Program) (t : TypeId) (k : Nat) (x : AV) : Option (Prop × AV) := match fld P t k with
  | none => none
  | some (o, u) => match tyc P u, x with
    | some (ag, n), .agg l => some (o + n ≤ l.length ∧ (ag = false → n = 1), mkVal ag ((l.drop o).take n))
    | _, _ => none

def pIndexAddr (P : Program) (as : AS) (t : TypeId) (x y : AV) : Option (Prop × AV) := match y with
  | .v (.int _ i) => match x with
    | .sl sz rows => match elt P t with
      | some (_, sz') => some (sz' = sz ∧ 0 ≤ i ∧ i < rows.length, .elp sz rows i.toNat 0)
      | none => none
    | .ob n len => match elt P t, as.ob n with
      | some (_, sz'), some (.row _ sz rows _) => some (sz' = sz ∧ 0 ≤ i ∧ i < rows.length, .obp n sz i.toNat 0)
      | _, _ => none
    | .ptr n off => match arr P t with
      | some (len, _, sz) => some (0 ≤ i ∧ i < len, .ptr n (off + i.toNat * sz))
      | none => none
    | .elp sz rows j off => match arr P t with
      | some (len, _, s) => some (0 ≤ i ∧ i < len, .elp sz rows j (off + i.toNat * s))
      | none => none
    | .obp n sz j off => match arr P t with
      | some (len, _, s) => some (0 ≤ i ∧ i < len, .obp n sz j (off + i.toNat * s))
      | none => none
    | _ => none
  | _ => none

def pIndex (P : Program) (t : TypeId) (x y : AV) : Option (Prop × AV) := match y, x with
  | .v (.int _ i), .agg l => match arr P t with
    | some (len, e, sz) => match tyc P e with
      | some (ag, n) => some (n = sz ∧ 0 ≤ i ∧ i < len ∧ i.toNat * sz + n ≤ l.length ∧ (ag = false → n = 1), mkVal ag ((l.drop (i.toNat * sz)).take n))
      | none => none
    | none => none
  | _, _ => none

def pExtract (k : Nat) (x : AV) : Option (Prop × AV) := match x with
  | .tup l => some (k < l.length, l.getD k .un)
  | _ => none

def pLen (P : Program) (t : TypeId) (x : AV) : Option (Prop × AV) := match x with
  | .sl _ rows => some ((elt P t).isSome = true, .v (.int .i64 rows.length))
  | .ob _ len => some ((elt P t).isSome = true, .v (.int .i64 len))
  | .v (.slice _ n _) => some ((elt P t).isSome = true, .v (.int .i64 n))
  | .agg _ => match arr P t with
    | some (n, _, _) => some (True, .v (.int .i64 n))
    | none => none
  | _ => none

def ints : List AV → Option (List Int)
  | [] => some []
  | .v (.int .i64 n) :: l => (ints l).map (n :: ·)
  | _ :: _ => none

def pMM (b : Builtin) (l : List AV) : Option (Prop × AV) := match ints l, b with
  | some (x :: r), .max => some (True, .v (.int .i64 (r.foldl max x)))
  | some (x :: r), .min => some (True, .v (.int .i64 (r.foldl min x)))
  | _, _ => none

/-- the capacity: of a nil slice alone -/
def pCap (P : Program) (t : TypeId) (x : AV) : Option (Prop × AV) := match x with
  | .v (.slice none 0 0) => some ((elt P t).isSome = true, .v (.int .i64 0))
  | _ => none

def pNil (x : AV) : Option (Prop × AV) := match x with
  | .ptr n off => some (True, .ptr n off)
  | .elp sz rows i off => some (True, .elp sz rows i off)
  | .obp n sz i off => some (True, .obp n sz i off)
  | _ => none

def pSlice (P : Program) (t : TypeId) (x : AV) (lo hi mx : Option AV) : Option (Prop × AV) := match x with
  | .sl sz rows => match elt P t, mx with
    | some (_, sz'), none => match lo, hi with
      | none, none => some (sz' = sz, .sl sz rows)
      | some (.v (.int _ l)), none => some (sz' = sz ∧ 0 ≤ l ∧ l ≤ rows.length, .sl sz (rows.drop l.toNat))
      | none, some (.v (.int _ h)) => some (sz' = sz ∧ 0 ≤ h ∧ h ≤ rows.length, .sl sz (rows.take h.toNat))
      | some (.v (.int _ l)), some (.v (.int _ h)) => some (sz' = sz ∧ 0 ≤ l ∧ l ≤ h ∧ h ≤ rows.length, .sl sz ((rows.take h.toNat).drop l.toNat))
      | _, _ => none
    | _, _ => none
  | .v (.slice none 0 0) => match elt P t, lo, hi, mx with
    | some _, none, some (.v (.int _ h)), none => some (h = 0, .v (.slice none 0 0))
    | some _, some (.v (.int _ l)), none, none => some (l = 0, .v (.slice none 0 0))
    | some _, none, none, none => some (True, .v (.slice none 0 0))
    | _, _, _, _ => none
  | _ => none

def pMake (g : FuncId) (fst cap : List AV) : Option (Prop × AV) := match fst, cap with
  | [], cap => some (True, .fn g cap)
  | fst, [] => some (True, .bf g fst)
  | _, _ => none
def evs (as : AS) (l : List Operand) : List AV := l.map (ev as)

def pureOp (P : Program) (eq : TypeId → Option (List Value)) (as : AS) (o : Op) : Option (Prop × AV) := match o with
  | .move x | .assign x => some (True, ev as x)
  | .pick c a b => match ev as c with
    | .v (.bool cb) => pickV cb (ev as a) (ev as b)
    | _ => none
  | .nilCheck x => pNil (ev as x)
  | .binOp op t x y _ => pBin P eq op t (ev as x) (ev as y)
  | .unOp op _ x => pUn op (ev as x)
  | .convert s t x => pConv P s t (ev as x)
  | .load t x => pLoad P as t (ev as x)
  | .fieldAddr t x k => pFieldAddr P t k (ev as x)
  | .field t x k => pField P t k (ev as x)
  | .indexAddr t x y => pIndexAddr P as t (ev as x) (ev as y)
  | .index t x y => pIndex P t (ev as x) (ev as y)
  | .extract x k => pExtract k (ev as x)
  | .makeFunc (.func g) first cap => pMake g (evs as first.toList) (evs as cap.toList)
  | .slice t x lo hi none => pSlice P t (ev as x) (lo.map (ev as)) (hi.map (ev as)) none
  | .call c => match c.callee with
    | .builtin .len => match c.args.toList, c.argTypes.toList with
      | [x], [t] => pLen P t (ev as x)
      | _, _ => none
    | .builtin .cap => match c.args.toList, c.argTypes.toList with
      | [x], [t] => pCap P t (ev as x)
      | _, _ => none
    | .builtin .max => pMM .max (evs as c.args.toList)
    | .builtin .min => pMM .min (evs as c.args.toList)
    | _ => none
  | _ => none

/-! ### the model agrees -/
section
variable {m : Mem} {w : World} {as : AS} {a : Act} {P : Program}

theorem rep_int {k : IntKind} {n : Int} {x : Value} (h : Rep w m (.v (.int k n)) x) : x = .int k n := by cases h; rfl
theorem rep_v {y x : Value} (h : Rep w m (.v y) x) : x = y := by cases h; rfl

theorem rep_vals : ∀ {l : List AV} {xs : List Value} {ys : Array Value}, vals l = some xs → l.length = ys.size → (∀ i a, l[i]? = some a → Rep w m a (ys.getD i undef)) → ys = xs.toArray := by
  intro l xs ys hv hl h
  apply Array.ext'
  simp only
  induction l generalizing xs ys with
  | nil =>
    simp only [vals, Option.some.injEq] at hv
    subst hv
    have : ys.toList.length = 0 := by simpa using hl.symm
    simpa using this
  | cons c l ih =>
    cases c with
    | v x =>
      simp only [vals, Option.map_eq_some_iff] at hv
      obtain ⟨r, hr, rfl⟩ := hv
      obtain ⟨ysl⟩ := ys
      cases ysl with
      | nil => simp at hl
      | cons y ysl =>
        have h0 := h 0 (.v x) rfl
        simp at h0
        cases h0
        have := ih (ys := ysl.toArray) hr (by simpa using hl) (fun i a hi => by have := h (i + 1) a (by simpa using hi); simpa using this)
        simp at this ⊢
        exact this
    | _ => simp [vals] at hv

theorem mk_rep {ag : Bool} {cs : List AV} {xs : List Value} (hl : cs.length = xs.length) (h1 : ∀ x ∈ xs, x.oneCell' = true) (h : ∀ i a, cs[i]? = some a → Rep w m a (xs.getD i undef)) (hag : ag = false → cs.length = 1) :
    Rep w m (mkVal ag cs) (if ag then .agg xs.toArray else xs.headD undef) := by
  unfold mkVal
  cases ag with
  | true => simp only [if_true]; exact .agg cs xs.toArray (by simpa using hl) (by simpa using h1) (fun i a hi => by have := h i a hi; simpa using this)
  | false =>
    simp only [Bool.false_eq_true, if_false]
    have h1' := hag rfl
    match cs, xs, hl, h1' with
    | [c], [x], _, _ => have := h 0 c rfl; simpa using this

theorem getD_of {xs : List Value} {i : Nat} (h : i < xs.length) : xs[i]? = some (xs.getD i undef) := by simp [List.getD, List.getElem?_eq_getElem h]

/-- a load of k cells from consecutive places -/
theorem load_run {t k g o : Nat} {ag : Bool} (ht : tyc P t = some (ag, k)) (hag : ag = false → k = 1) (f : Nat → Value) (hc : ∀ j, j < k → w.cell? ⟨g, o + j, none⟩ = some (f j)) :
    (Instr.loadAt t (.pointer (some ⟨g, o, none⟩))).run P w = .ok (if ag then .agg ((List.range k).map f).toArray else ((List.range k).map f).headD undef) w := by
  obtain ⟨h1, h2⟩ := tyc_isAgg ht w
  have hadd : ∀ j, (⟨g, o, none⟩ : Addr).add j = ⟨g, o + j, none⟩ := fun j => Addr.add_lit g o j
  cases ag with
  | true =>
    have := run_loadCells (P := P) w ⟨g, o, none⟩ k f (fun j hj => by rw [hadd]; exact hc j hj)
    simp [Instr.loadAt, Instr.sureAddr, loadVar, h1, h2, this]
  | false =>
    have hk := hag rfl
    subst hk
    have := hc 0 (by omega)
    simp at this
    simp [Instr.loadAt, Instr.sureAddr, loadVar, h1, this]

theorem take_drop_get {α : Type} (l : List α) (o k j : Nat) (h : o + k ≤ l.length) (hj : j < k) : ((l.drop o).take k)[j]? = l[o + j]? := by
  rw [List.getElem?_take, if_pos hj, List.getElem?_drop]

theorem load_rep {k o : Nat} {ag : Bool} (cells : List AV) (f : Nat → Value) (hok : o + k ≤ cells.length) (hag : ag = false → k = 1) (h1 : ∀ j, j < k → (f j).oneCell' = true) (h : ∀ j a, j < k → cells[o + j]? = some a → Rep w m a (f j)) :
    Rep w m (mkVal ag ((cells.drop o).take k)) (if ag then .agg ((List.range k).map f).toArray else ((List.range k).map f).headD undef) := by
  refine mk_rep (by simp; omega) (by simpa using h1) (fun i a hi => ?_) (fun e => by have := hag e; simp; omega)
  have hik : i < k := by
    rcases Nat.lt_or_ge i k with h' | h'
    · exact h'
    · rw [List.getElem?_eq_none (by simp; omega)] at hi; cases hi
  rw [take_drop_get _ _ _ _ hok hik] at hi
  have := h i a hik hi
  simpa [List.getD, hik] using this

end

end Go.Proofs.Ytfaekiaegebmbaa.Ab
