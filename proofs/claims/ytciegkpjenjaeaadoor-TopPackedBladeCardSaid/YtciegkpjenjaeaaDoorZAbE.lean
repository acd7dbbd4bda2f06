/- The steps of the memory: a new object, an object written, an object frozen, an object used up. The operations that change memory. The operations that change memory: what the abstract machine says of them, and that the model agrees. -/
import Derived.Test.YtciegkpjenjaeaaDoorZAbA
import Derived.Laws.Tables
import Derived.Laws.OwnMore
import Derived.Laws.MakeOwn
namespace Go.Proofs.YtciegkpjenjaeaaDoor.Ab
open Go Go.RowKit
set_option linter.unusedSimpArgs false
set_option linter.unusedVariables false

def put {α : Type} : List α → Nat → List α → List α
  | cs, _, [] => cs
  | [], _, _ => []
  | _ :: cs, 0, n :: ns => n :: put cs 0 ns
  | c :: cs, k + 1, ns => c :: put cs k ns

theorem put_length {α : Type} : ∀ (cs : List α) (k : Nat) (ns : List α), (put cs k ns).length = cs.length
  | cs, _, [] => by simp [put]
  | [], _, _ :: _ => by simp [put]
  | _ :: cs, 0, n :: ns => by simp [put, put_length cs 0 ns]
  | c :: cs, k + 1, n :: ns => by simp [put, put_length cs k (n :: ns)]

theorem put_eq {α : Type} : ∀ (cs : List α) (k : Nat) (ns : List α), k + ns.length ≤ cs.length → put cs k ns = cs.take k ++ ns ++ cs.drop (k + ns.length)
  | cs, k, [], h => by simp [put]
  | [], k, _ :: _, h => by simp at h
  | _ :: cs, 0, n :: ns, h => by
    have := put_eq cs 0 ns (by simpa using h)
    simp [put, this]
  | c :: cs, k + 1, n :: ns, h => by
    have := put_eq cs k (n :: ns) (by simp at h ⊢; omega)
    have e : k + 1 + (n :: ns).length = (k + (n :: ns).length) + 1 := by omega
    rw [e]
    simp [put, this]

theorem put_get {α : Type} (cs : List α) (k : Nat) (ns : List α) (h : k + ns.length ≤ cs.length) (i : Nat) : (put cs k ns)[i]? = if i < k then cs[i]? else if i < k + ns.length then ns[i - k]? else cs[i]? := by
  rw [put_eq cs k ns h]
  by_cases h1 : i < k
  · rw [if_pos h1, List.append_assoc, List.getElem?_append_left (by simp; omega), List.getElem?_take, if_pos h1]
  · rw [if_neg h1, List.append_assoc, List.getElem?_append_right (by simp; omega)]
    have e : (List.take k cs).length = k := by simp; omega
    rw [e]
    by_cases h2 : i < k + ns.length
    · rw [if_pos h2, List.getElem?_append_left (by omega)]
    · rw [if_neg h2, List.getElem?_append_right (by omega), List.getElem?_drop]
      congr 1
      omega

section
variable {m : Mem} {w w' : World} {ob : Nat → Option Obj} {k n : Nat} {o o' : Obj} {v x : Value}

def Mem.bind (m : Mem) (k : Nat) (v : Value) : Mem := ⟨m.I, upd m.β k (some v), m.φ⟩

theorem bind_beta (hk : m.β k = none) : ∀ n x, m.β n = some x → (m.bind k v).β n = some x := fun n x hx => by
  by_cases h : n = k
  · subst h; rw [hk] at hx; cases hx
  · simp [Mem.bind, upd, h, hx]

/-- A new object. -/
theorem new_step (hR : MR m w ob) (hk : m.β k = none) (hh : ∀ b, b < w.heap.size → w'.heap[b]? = w.heap[b]?) (hs : w.heap.size ≤ w'.heap.size) (h1 : w'.os = w.os) (h2 : w'.tape = w.tape) (h3 : w'.output = w.output)
    (hat : ObAt w' (m.bind k v) k v o) (hb : ∀ b, foot m k v o b → w.heap.size ≤ b) : MR (m.bind k v) w' (upd ob k (some o)) ∧ Ext w m ob w' (m.bind k v) (upd ob k (some o)) := by
  have c : Chg m w ob (fun _ => False) (fun _ => False) (fun n => n = k) (m.bind k v) w' (upd ob k (some o)) := by
    refine ⟨fun b hb => hb.elim, fun b hb _ => hh b hb, hs, h1, h2, h3, fun b hb => hb, fun b hb => .inl hb, fun b hb => Nat.lt_of_lt_of_le (hR.imm b hb) hs, bind_beta hk, fun _ _ _ => rfl, fun n o' ho => ?_, fun n n' _ _ _ _ _ hn hn' _ _ _ _ hne _ _ _ => absurd (hn.trans hn'.symm) hne⟩
    by_cases h : n = k
    · subst h
      simp [upd] at ho
      subst ho
      exact .inr ⟨rfl, v, by simp [Mem.bind, upd], hat, fun b _ hb' => .inr (hb b hb')⟩
    · simp [upd, h] at ho
      exact .inl ⟨ho, fun h => h, h⟩
  exact ⟨c.mr hR, c.ext hR⟩

/-- A live object written. -/
theorem set_step (hR : MR m w ob) (hn : ob n = some o) (hl : o.live = true) (hx : m.β n = some x) (hh : ∀ b, b < w.heap.size → ¬ foot m n x o b → w'.heap[b]? = w.heap[b]?) (hs : w.heap.size = w'.heap.size) (h1 : w'.os = w.os) (h2 : w'.tape = w.tape) (h3 : w'.output = w.output)
    (hat : ObAt w' m n x o') (hf : ∀ b, foot m n x o' b → foot m n x o b) : MR m w' (upd ob n (some o')) ∧ Ext w m ob w' m (upd ob n (some o')) := by
  have c : Chg m w ob (fun i => i = n) (fun b => foot m n x o b) (fun i => i = n) m w' (upd ob n (some o')) := by
    refine ⟨fun b hb => ⟨n, o, x, rfl, hn, hl, hx, hb⟩, fun b hb hne => hh b hb hne, by omega, h1, h2, h3, fun b hb => hb, fun b hb => .inl hb, fun b hb => by rw [← hs]; exact hR.imm b hb, fun _ _ h => h, fun _ _ _ => rfl, fun i p hp => ?_, fun n n' _ _ _ _ _ hn hn' _ _ _ _ hne _ _ _ => absurd (hn.trans hn'.symm) hne⟩
    by_cases h : i = n
    · subst h
      simp [upd] at hp
      subst hp
      exact .inr ⟨rfl, x, hx, hat, fun b _ hb' => .inl (hf b hb')⟩
    · simp [upd, h] at hp
      exact .inl ⟨hp, h, h⟩
  exact ⟨c.mr hR, c.ext hR⟩

/-- Freezing. -/
def fz1 (ob : Nat → Option Obj) (n : Nat) : Nat → Option Obj := match ob n with
  | some (.row e sz rows false) => upd ob n (some (.row e sz rows true))
  | _ => ob

theorem fz_step (hR : MR m w ob) (n : Nat) : ∃ m', MR m' w (fz1 ob n) ∧ Ext w m ob w m' (fz1 ob n) ∧ m'.β = m.β ∧ m'.φ = m.φ := by
  unfold fz1
  split
  · rename_i e sz rows hn
    obtain ⟨v, hv, hat⟩ := hR.obs n _ hn
    have hat' : ObAt w ⟨fun b => m.I b ∨ blk v = some b, m.β, m.φ⟩ n v (.row e sz rows true) := by
      obtain ⟨hsz, hh⟩ := hat
      refine ⟨hsz, ?_⟩
      rcases hh with hh | ⟨g, cap, cur, rfl, hh, hl, hc, hs, hr, h1, hf, hnf⟩
      · exact .inl hh
      · exact .inr ⟨g, cap, cur, rfl, hh, hl, hc, hs, fun i r j a h2 h3 => (hr i r j a h2 h3).ext (fun b hb => .inl hb) (fun _ _ => rfl), h1, fun _ => .inr rfl, fun h => by cases h⟩
    have c : Chg m w ob (fun i => i = n) (fun b => blk v = some b) (fun i => i = n) ⟨fun b => m.I b ∨ blk v = some b, m.β, m.φ⟩ w (upd ob n (some (.row e sz rows true))) := by
      refine ⟨fun b hb => ⟨n, _, v, rfl, hn, rfl, hv, hb⟩, fun b hb hne => rfl, Nat.le_refl _, rfl, rfl, rfl, fun b hb => .inl hb, fun b hb => hb.elim .inl fun h => .inr (.inl h), fun b hb => hb.elim (hR.imm b) fun h => hat.blk_lt h, fun _ _ h => h, fun _ _ _ => rfl, fun i p hp => ?_, fun n n' _ _ _ _ _ hn hn' _ _ _ _ hne _ _ _ => absurd (hn.trans hn'.symm) hne⟩
      by_cases h : i = n
      · subst h
        simp [upd] at hp
        subst hp
        exact .inr ⟨rfl, v, hv, hat', fun b _ hb' => .inl hb'⟩
      · simp [upd, h] at hp
        exact .inl ⟨hp, h, h⟩
    exact ⟨_, c.mr hR, c.ext hR, rfl, rfl⟩
  · exact ⟨m, hR, Ext.refl _ _ _, rfl, rfl⟩

def fzs (ob : Nat → Option Obj) : List Nat → Nat → Option Obj
  | [] => ob
  | n :: l => fzs (fz1 ob n) l

theorem fzs_step (hR : MR m w ob) (l : List Nat) : ∃ m', MR m' w (fzs ob l) ∧ Ext w m ob w m' (fzs ob l) ∧ m'.β = m.β ∧ m'.φ = m.φ := by
  induction l generalizing m ob with
  | nil => exact ⟨m, hR, Ext.refl _ _ _, rfl, rfl⟩
  | cons n l ih =>
    obtain ⟨m1, h1, e1, b1, p1⟩ := fz_step hR n
    obtain ⟨m2, h2, e2, b2, p2⟩ := ih h1
    exact ⟨m2, h2, e1.trans e2, b2.trans b1, p2.trans p1⟩

/-- A live object used up, a new one made of it. -/
theorem use_step (hR : MR m w ob) (hn : ob n = some o) (hl : o.live = true) (hx : m.β n = some x) (hk : m.β k = none) (hh : ∀ b, b < w.heap.size → ¬ foot m n x o b → w'.heap[b]? = w.heap[b]?) (hs : w.heap.size ≤ w'.heap.size) (h1 : w'.os = w.os) (h2 : w'.tape = w.tape) (h3 : w'.output = w.output)
    (hat : ObAt w' (m.bind k v) k v o') (hb : ∀ b, foot m k v o' b → foot m n x o b ∨ w.heap.size ≤ b) : MR (m.bind k v) w' (upd (upd ob n none) k (some o')) ∧ Ext w m ob w' (m.bind k v) (upd (upd ob n none) k (some o')) := by
  have c : Chg m w ob (fun i => i = n) (fun b => foot m n x o b) (fun i => i = k) (m.bind k v) w' (upd (upd ob n none) k (some o')) := by
    refine ⟨fun b hb => ⟨n, o, x, rfl, hn, hl, hx, hb⟩, fun b hb hne => hh b hb hne, hs, h1, h2, h3, fun b hb => hb, fun b hb => .inl hb, fun b hb => Nat.lt_of_lt_of_le (hR.imm b hb) hs, bind_beta hk, fun _ _ _ => rfl, fun i p hp => ?_, fun n n' _ _ _ _ _ hn hn' _ _ _ _ hne _ _ _ => absurd (hn.trans hn'.symm) hne⟩
    by_cases h : i = k
    · subst h
      simp [upd] at hp
      subst hp
      exact .inr ⟨rfl, v, by simp [Mem.bind, upd], hat, fun b _ hb' => hb b hb'⟩
    · by_cases h' : i = n
      · subst h'
        simp [upd, h] at hp
      · simp [upd, h, h'] at hp
        exact .inl ⟨hp, h', h⟩
  exact ⟨c.mr hR, c.ext hR⟩

end
end Go.Proofs.YtciegkpjenjaeaaDoor.Ab
namespace Go.Proofs.YtciegkpjenjaeaaDoor.Ab
open Go Go.RowKit
set_option linter.unusedSimpArgs false
set_option linter.unusedVariables false

/-! ### types -/
def zer (P : Program) (t : TypeId) : Option (List Value) := (P.info? t).bind fun i => i.zero.map fun z => z.cells.toList
/-- a zero cell as a datum: a nil slice is an empty one -/
def zdv (P : Program) (e : TypeId) : Value → DV
  | .slice none 0 0 => match elt P e with
    | some (_, sz) => .sl sz []
    | none => .v (.slice none 0 0)
  | x => .v x
def zds (P : Program) (e : TypeId) : Option (List DV) := (zer P e).map fun zs => zs.map (zdv P e)
theorem zdv_rd {P : Program} {e : TypeId} {w : World} {I : Nat → Prop} (x : Value) : RD w I (zdv P e x) x := by
  unfold zdv
  split
  · split
    · exact .sl0 _ _ _ (by simp [maxLen])
    · exact .v _
  · exact .v _
/-- of an element's type: its size and its bytes -/
def apf (P : Program) (e : TypeId) : Option (Nat × Nat) := match P.info? e with
  | some i => match i.zero with
    | some z => if z.cells.size = i.size ∧ 0 < i.size then some (i.size, i.bytes) else none
    | none => none
  | none => none
/-- the places of a struct's fields -/
def stf (P : Program) (t : TypeId) : Option (List (Nat × Nat)) := match P.underlying t with
  | some (.struct fields) => fields.toList.mapM fun f => (P.info? f.type).map fun i => (f.offset, i.size)
  | _ => none

theorem zer_some {P : Program} {t : TypeId} {zs : List Value} (h : zer P t = some zs) : ∃ i z, P.info? t = some i ∧ i.zero = some z ∧ z.cells.toList = zs := by
  obtain ⟨i, hi, h2⟩ := Option.bind_eq_some_iff.1 h
  obtain ⟨z, hz, h3⟩ := Option.map_eq_some_iff.1 h2
  exact ⟨i, z, hi, hz, h3⟩
theorem apf_some {P : Program} {e : TypeId} {sz by_ : Nat} (h : apf P e = some (sz, by_)) : ∃ i z, P.info? e = some i ∧ i.zero = some z ∧ z.cells.size = sz ∧ 0 < sz ∧ i.size = sz ∧ i.bytes = by_ := by
  unfold apf at h
  split at h
  · rename_i i hi
    split at h
    · rename_i z hz
      split at h
      · rename_i hc
        simp only [Option.some.injEq, Prod.mk.injEq] at h
        obtain ⟨rfl, rfl⟩ := h
        exact ⟨i, z, hi, hz, hc.1, hc.2, rfl, rfl⟩
      · cases h
    · cases h
  · cases h

/-! ### cells -/
def cellsOf : AV → Option (Prop × List AV)
  | .agg l => some (True, l)
  | .v x => some (x.oneCell' = true, [.v x])
  | .tup _ => none
  | .un => none
  | .sl sz rows => some (True, [.sl sz rows])
  | .ob n len => some (True, [.ob n len])
  | .ptr n off => some (True, [.ptr n off])
  | .elp sz rows i off => some (True, [.elp sz rows i off])
  | .obp n sz i off => some (True, [.obp n sz i off])
  | .fn g cap => some (True, [.fn g cap])
  | .yl n => some (True, [.yl n])
  | .mp n => some (True, [.mp n])
  | .bl _ _ => none
  | .bf _ _ => none
  | .cl sz rows => some (True, [.cl sz rows])
  | .fs p => some (True, [.fs p])
  | .kp b o => some (True, [.kp b o])
  | .pf _ _ => none

section
variable {m : Mem} {w : World} {ob : Nat → Option Obj}

theorem cellsOf_rep {a : AV} {x : Value} {p : Prop} {cs : List AV} (h : cellsOf a = some (p, cs)) (hp : p) (hx : Rep w m a x) :
    cs.length = x.cells.size ∧ (∀ y ∈ x.cells, y.oneCell' = true) ∧ ∀ i c, cs[i]? = some c → Rep w m c (x.cells.getD i undef) := by
  have single : ∀ (a : AV) (x : Value), x.oneCell' = true → Rep w m a x → [a].length = x.cells.size ∧ (∀ y ∈ x.cells, y.oneCell' = true) ∧ ∀ i c, [a][i]? = some c → Rep w m c (x.cells.getD i undef) := by
    intro a x h1 hr
    have hc : x.cells = #[x] := by cases x <;> simp_all [Value.oneCell', Value.cells]
    rw [hc]
    refine ⟨rfl, by simpa using h1, fun i c hi => ?_⟩
    cases i with
    | zero => simp at hi; subst hi; simpa using hr
    | succ i => simp at hi
  cases a with
  | agg l =>
    cases h
    cases hx with
    | agg _ xs hl h1 hx => exact ⟨hl, h1, hx⟩
  | v y => cases h; exact single _ _ (by cases hx; exact hp) hx
  | tup l => cases h
  | un => cases h
  | sl sz rows => cases h; exact single _ _ (by cases hx with | sl _ _ _ h => cases h <;> rfl) hx
  | ob => cases h; exact single _ _ (by cases hx; rfl) hx
  | ptr => cases h; exact single _ _ (by cases hx; rfl) hx
  | elp => cases h; exact single _ _ (by cases hx; rfl) hx
  | obp => cases h; exact single _ _ (by cases hx; rfl) hx
  | fn => cases h; exact single _ _ (by cases hx; rfl) hx
  | yl => cases h; exact single _ _ (by cases hx; rfl) hx
  | mp => cases h; exact single _ _ (by cases hx; rfl) hx
  | bl => cases h
  | bf => cases h
  | cl => cases h; exact single _ _ (by cases hx; rfl) hx
  | fs => cases h; exact single _ _ (by cases hx; rfl) hx
  | kp => cases h; exact single _ _ (by cases hx; rfl) hx
  | pf => cases h

/-- as a datum: an object must be frozen -/
def toD (ob : Nat → Option Obj) : AV → Option DV
  | .v x => some (.v x)
  | .sl sz rows => some (.sl sz rows)
  | .ob n len => match ob n with
    | some (.row _ sz rows true) => some (.sl sz rows)
    | _ => none
  | _ => none
def toDs (ob : Nat → Option Obj) : List AV → Option (List DV)
  | [] => some []
  | a :: l => match toD ob a, toDs ob l with
    | some d, some r => some (d :: r)
    | _, _ => none

theorem row_RD {e sz : Nat} {rows : List (List DV)} {v : Value} (h : RowAt w m e sz rows true v) : RD w m.I (.sl sz rows) v := by
  obtain ⟨hsz, ⟨rfl, rfl⟩ | ⟨g, cap, cur, rfl, hh, hl, hc, hs, hr, h1, hf, _⟩⟩ := h
  · exact .sl0 _ _ _ (by simp [maxLen])
  · refine .sl _ _ g 0 cap (fun i j => cur.getD (i * sz + j) undef) hsz hl hc (hf rfl) (fun i j hi hj => ?_) (fun i j hi hj => h1 _ (row_bound hi hj)) hr
    rw [cell_of_row w g _ cur e (0, 0) hh]
    have : 0 + (i * sz + j) < cur.size := by
      have := row_bound (n := cap) (Nat.lt_of_lt_of_le hi hl) hj
      omega
    simp only [Nat.zero_add] at this
    simp [Array.getD, this]

theorem toD_rep (hR : MR m w ob) {a : AV} {d : DV} {x : Value} (h : toD ob a = some d) (hx : Rep w m a x) : RD w m.I d x := by
  unfold toD at h
  split at h
  · cases h; cases hx; exact .v _
  · cases h; cases hx with | sl _ _ _ h => exact h
  · split at h
    · rename_i hn
      cases h
      cases hx with
      | ob _ _ A c hb =>
      obtain ⟨v, hv, hat⟩ := hR.obs _ _ hn
      rw [hb] at hv
      cases hv
      exact row_RD hat
    · cases h
  · cases h

theorem toDs_get : ∀ {l : List AV} {ds : List DV}, toDs ob l = some ds → ds.length = l.length ∧ ∀ (i : Nat) d, ds[i]? = some d → ∃ a, l[i]? = some a ∧ toD ob a = some d
  | [], ds, h => by cases h; simp
  | a :: l, ds, h => by
    unfold toDs at h
    split at h
    · rename_i d r hd hr
      cases h
      obtain ⟨h1, h2⟩ := toDs_get hr
      refine ⟨by simp [h1], fun i d' hi => ?_⟩
      cases i with
      | zero => simp at hi; subst hi; exact ⟨a, rfl, hd⟩
      | succ i => simpa using h2 i d' (by simpa using hi)
    · cases h

/-! ### parts put into a value's cells -/
def aFill (place : Nat → Option (Nat × Nat)) (cells : List AV) : List (Nat × AV) → Option (Prop × List AV)
  | [] => some (True, cells)
  | (i, a) :: rest => match place i, cellsOf a with
    | some (off, size), some (p, cs) => match aFill place (put cells off cs) rest with
      | some (q, r) => some ((p ∧ cs.length = size ∧ off + size ≤ cells.length) ∧ q, r)
      | none => none
    | _, _ => none

theorem foldl_set (off : Nat) : ∀ (l : List Value) (s : Nat) (cs : Array Value) (i : Nat), ((l.zipIdx s).foldl (fun cs (x : Value × Nat) => cs.setIfInBounds (off + x.2) x.1) cs)[i]? =
    if off + s ≤ i ∧ i < off + s + l.length ∧ i < cs.size then l[i - (off + s)]? else cs[i]?
  | [], s, cs, i => by
    simp only [List.zipIdx_nil, List.foldl_nil, List.length_nil, Nat.add_zero]
    rw [if_neg (by omega)]
  | x :: l, s, cs, i => by
    rw [List.zipIdx_cons, List.foldl_cons, foldl_set off l (s + 1) _ i]
    simp only [Array.size_setIfInBounds, List.length_cons]
    by_cases h : off + s ≤ i ∧ i < off + s + (l.length + 1) ∧ i < cs.size
    · rw [if_pos h]
      by_cases he : i = off + s
      · subst he
        rw [if_neg (by omega), Array.getElem?_setIfInBounds_self_of_lt h.2.2]
        simp
      · rw [if_pos (by omega)]
        have : i - (off + s) = (i - (off + (s + 1))) + 1 := by omega
        rw [this, List.getElem?_cons_succ]
    · rw [if_neg h, if_neg (by omega), Array.getElem?_setIfInBounds]
      split
      · rename_i he
        split
        · omega
        · rw [Array.getElem?_eq_none (by omega)]
      · rfl

theorem foldl_set_size (off : Nat) : ∀ (l : List (Value × Nat)) (cs : Array Value), (l.foldl (fun cs (x : Value × Nat) => cs.setIfInBounds (off + x.2) x.1) cs).size = cs.size
  | [], cs => rfl
  | x :: l, cs => by rw [List.foldl_cons, foldl_set_size off l]; simp

theorem getD_get? {xs : Array Value} {i : Nat} {v : Value} (h : xs[i]? = some v) : xs.getD i undef = v := by
  simp [Array.getD_eq_getD_getElem?, h]

theorem aFill_run {place : Nat → Option (Nat × Nat)} : ∀ {parts : List (Nat × AV)} {cells r : List AV} {p : Prop} {cur : Array Value} {vs : List (Nat × Value)}, aFill place cells parts = some (p, r) → p →
    cells.length = cur.size → (∀ y ∈ cur, y.oneCell' = true) → (∀ i c, cells[i]? = some c → Rep w m c (cur.getD i undef)) →
    vs.length = parts.length → (∀ (i : Nat) (q : Nat × AV), parts[i]? = some q → ∃ x, vs[i]? = some (q.1, x) ∧ Rep w m q.2 x) →
    ∃ cur', Instr.fill place cur vs = some cur' ∧ r.length = cur'.size ∧ cells.length = r.length ∧ (∀ y ∈ cur', y.oneCell' = true) ∧ (∀ i c, r[i]? = some c → Rep w m c (cur'.getD i undef))
  | [], cells, r, p, cur, vs, h, hp, hl, h1, hr, hlen, hv => by
    cases h
    have : vs = [] := List.eq_nil_of_length_eq_zero (by simpa using hlen)
    subst this
    exact ⟨cur, rfl, hl, rfl, h1, hr⟩
  | (i, a) :: rest, cells, r, p, cur, vs, h, hp, hl, h1, hr, hlen, hv => by
    unfold aFill at h
    split at h
    · rename_i off size q cs hpl hcs
      split at h
      · rename_i q' r' hrest
        cases h
        obtain ⟨⟨hq, hsz, hfit⟩, hq'⟩ := hp
        cases vs with
        | nil => simp at hlen
        | cons v vs =>
          obtain ⟨x, hx, hrep⟩ := hv 0 (i, a) rfl
          simp at hx
          subst hx
          obtain ⟨hcl, hc1, hcr⟩ := cellsOf_rep hcs hq hrep
          have hxs : x.cells.size = size := by omega
          have hno : ¬ (x.cells.size ≠ size ∨ off + x.cells.size > cur.size) := by omega
          have hfold : ∀ i, (x.cells.zipIdx.foldl (fun cs (c, j) => cs.setIfInBounds (off + j) c) cur)[i]? = if off ≤ i ∧ i < off + x.cells.size ∧ i < cur.size then x.cells[i - off]? else cur[i]? := by
            intro i
            have := foldl_set off x.cells.toList 0 cur i
            simp only [Nat.add_zero, Array.length_toList, Array.getElem?_toList] at this
            rw [← this, ← Array.foldl_toList, Array.toList_zipIdx]
          have hfs : (x.cells.zipIdx.foldl (fun cs (c, j) => cs.setIfInBounds (off + j) c) cur).size = cur.size := by
            rw [← Array.foldl_toList]; exact foldl_set_size off _ cur
          have hput : (put cells off cs).length = cells.length := put_length _ _ _
          obtain ⟨cur', hf, g1, g2, g3, g4⟩ := aFill_run (cur := x.cells.zipIdx.foldl (fun cs (c, j) => cs.setIfInBounds (off + j) c) cur) (vs := vs) hrest hq' (by rw [hput, hfs, hl])
            (fun y hy => by
              obtain ⟨i, hi⟩ := Array.mem_iff_getElem?.1 hy
              rw [hfold] at hi
              split at hi
              · exact hc1 y (Array.mem_of_getElem? hi)
              · exact h1 y (Array.mem_of_getElem? hi))
            (fun i c hi => by
              rw [put_get _ _ _ (by omega)] at hi
              have hil : i < cells.length := by
                rcases Nat.lt_or_ge i cells.length with h | h
                · exact h
                · rw [if_neg (by omega), if_neg (by omega), List.getElem?_eq_none h] at hi; cases hi
              by_cases hin : off ≤ i ∧ i < off + x.cells.size
              · rw [if_neg (by omega), if_pos (by omega)] at hi
                have hh := hcr _ _ hi
                rw [Array.getD_eq_getD_getElem?, hfold, if_pos (by omega), ← Array.getD_eq_getD_getElem?]
                exact hh
              · have hi' : cells[i]? = some c := by
                  by_cases h0 : i < off
                  · rwa [if_pos h0] at hi
                  · rwa [if_neg h0, if_neg (by omega)] at hi
                have hh := hr _ _ hi'
                rw [Array.getD_eq_getD_getElem?, hfold, if_neg (by omega), ← Array.getD_eq_getD_getElem?]
                exact hh)
            (by simpa using hlen) (fun i q hi => by simpa using hv (i + 1) q (by simpa using hi))
          exact ⟨cur', by simp only [Instr.fill, hpl]; rw [if_neg (by simp [hxs]; omega)]; exact hf, g1, by rw [← hput]; exact g2, g3, g4⟩
      · cases h
    · cases h

end
end Go.Proofs.YtciegkpjenjaeaaDoor.Ab
namespace Go.Proofs.YtciegkpjenjaeaaDoor.Ab
open Go Go.RowKit
set_option linter.unusedSimpArgs false
set_option linter.unusedVariables false

def chunks {α : Type} (sz : Nat) : Nat → List α → List (List α)
  | 0, _ => []
  | n + 1, l => l.take sz :: chunks sz n (l.drop sz)
theorem chunks_length {α : Type} (sz : Nat) : ∀ (n : Nat) (l : List α), (chunks sz n l).length = n
  | 0, _ => rfl
  | n + 1, l => by simp [chunks, chunks_length sz n]
theorem chunks_get {α : Type} (sz : Nat) : ∀ (n : Nat) (l : List α) (i : Nat) (r : List α), (chunks sz n l)[i]? = some r → r = (l.drop (i * sz)).take sz
  | 0, l, i, r, h => by simp [chunks] at h
  | n + 1, l, 0, r, h => by simp [chunks] at h; simp [h]
  | n + 1, l, i + 1, r, h => by
    have := chunks_get sz n (l.drop sz) i r (by simpa [chunks] using h)
    rw [this, List.drop_drop]
    congr 2
    rw [Nat.add_mul]; omega

theorem flat_get {α : Type} (l : List α) : ∀ (n i : Nat), i < n * l.length → ((List.replicate n l).flatten)[i]? = l[i % l.length]?
  | 0, i, h => by simp at h
  | n + 1, i, h => by
    rw [List.replicate_succ, List.flatten_cons]
    by_cases hi : i < l.length
    · rw [List.getElem?_append_left hi, Nat.mod_eq_of_lt hi]
    · rw [List.getElem?_append_right (by omega), flat_get l n (i - l.length) (by rw [Nat.add_mul] at h; omega)]
      congr 1
      rw [Nat.mod_eq_sub_mod (by omega : i ≥ l.length)]

def app (ob : Nat → Option Obj) : List (Nat × Option Obj) → Nat → Option Obj
  | [] => ob
  | (n, o) :: l => app (upd ob n o) l

/-- the rows of a slice that is appended -/
def srcRows (as : AS) : AV → Option (Nat × List (List DV))
  | .sl sz rows => some (sz, rows)
  | .ob n _ => match as.ob n with
    | some (.row _ sz rows _) => some (sz, rows)
    | _ => none
  | _ => none

/-- 'append(nil, make(.., n)...)' -/
def appZ (P : Program) (k : Nat) (t t' : TypeId) (s : AV) (n : Int) : Option (Prop × AV × List (Nat × Option Obj)) := match elt P t with
  | some (e, sz) => match zer P e, apf P e with
    | some zs, some (_, by_) => match s with
      | .v (.slice none 0 0) => some ((∃ q, P.underlying t' = some (.int q)) ∧ 0 ≤ n ∧ n * by_ ≤ 140737488355328 ∧ n ≤ maxLen ∧ zs.all (·.oneCell') = true, .ob k n.toNat, [(k, some (.row e sz (List.replicate n.toNat (zs.map .v)) false))])
      | _ => none
    | _, _ => none
  | none => none
def appS (P : Program) (k : Nat) (as : AS) (t t' : TypeId) (vs vx : AV) : Option (Prop × AV × List (Nat × Option Obj)) := match elt P t with
  | some (e, sz) => match apf P e, srcRows as vx with
    | some (_, by_), some (sz', rows') => match vs with
      | .v (.slice none 0 0) => some (t = t' ∧ (sz' = sz ∨ rows' = []) ∧ rows'.length * by_ ≤ 140737488355328 ∧ rows'.length ≤ maxLen, .ob k rows'.length, [(k, some (.row e sz rows' false))])
      | .ob n _ => match as.ob n with
        | some (.row e' sz'' rows false) => some (t = t' ∧ e' = e ∧ sz'' = sz ∧ (sz' = sz ∨ rows' = []) ∧ (rows.length + rows'.length) * by_ ≤ 140737488355328 ∧ rows.length + rows'.length ≤ maxLen, .ob k (rows.length + rows'.length), [(n, none), (k, some (.row e sz (rows ++ rows') false))])
        | _ => none
      | .cl sz'' rows => some (t = t' ∧ sz'' = sz ∧ 0 < rows'.length ∧ sz' = sz ∧ (rows.length + rows'.length) * by_ ≤ 140737488355328 ∧ rows.length + rows'.length ≤ maxLen, .ob k (rows.length + rows'.length), [(k, some (.row e sz (rows ++ rows') false))])
      | _ => none
    | _, _ => none
  | none => none

/-- the zero value of a type -/
def zro (P : Program) (t : TypeId) : Option Value := (P.info? t).bind fun i => i.zero
def mset (f : Int → Option DV) (x : Int) (d : DV) : Int → Option DV := fun y => if y = x then some d else f y
theorem mset_same (f : Int → Option DV) (x : Int) (d : DV) : mset f x d x = some d := by simp [mset]
theorem mset_ne {f : Int → Option DV} {x y : Int} {d : DV} (h : y ≠ x) : mset f x d y = f y := by simp [mset, h]
def mget : Option DV → Value → AV
  | some d, _ => ofD d
  | none, z => .v z

/-- A range over a set that cannot turn: what is left, what came last. -/
def MIt (p : Int → Prop) (left : List Int) (last : Option Int) (v : Value) (I F : Nat → Prop) (w : World) : Prop :=
  ∃ (r g : Nat) (es : Array MapEntry) (clock since : Nat) (seen : Array Nat) (c0 : Nat), v = .pointer (some ⟨r, 0, none⟩) ∧ (∀ b, F b ↔ b = r) ∧ I g ∧ w.heap[g]? = some (.map es clock) ∧ SetE es clock p ∧ w.heap[r]? = some (.mapIter (some g) since seen c0) ∧
    (∀ e ∈ es.toList, e.born < since) ∧ since ≤ c0 ∧ since ≤ clock ∧ left.Nodup ∧ (∀ e ∈ es.toList, keyI e ∈ left ↔ seen.contains e.born = false) ∧ (∀ x ∈ left, p x) ∧
    ∀ x, last = some x → c0 = clock ∧ ∃ (sn : Array Nat) (e : MapEntry), seen = sn.push e.born ∧ e ∈ es.toList ∧ keyI e = x

noncomputable def opD (P : Program) (k : Nat) (as : AS) (o : Op) : Option (Prop × AV × List (Nat × Option Obj)) := match o with
  | .box t x => match cellsOf (ev as x) with
    | some (p, cs) => some (p, .ptr k 0, [(k, some (.box t cs))])
    | none => none
  | .alloc t => match zer P t with
    | some zs => some (zs.all (·.oneCell') = true, .ptr k 0, [(k, some (.box t (zs.map .v)))])
    | none => none
  | .store t a x => match tyc P t, cellsOf (ev as x) with
    | some (_, sz), some (p, cs) => match ev as a with
      | .ptr n off => match as.ob n with
        | some (.box bt cells) => some (p ∧ cs.length = sz ∧ off + sz ≤ cells.length, .v undef, [(n, some (.box bt (put cells off cs)))])
        | _ => none
      | .obp n s i off => match as.ob n, toDs as.ob cs with
        | some (.row e s' rows false), some ds => some (p ∧ cs.length = sz ∧ s = s' ∧ i < rows.length ∧ off + sz ≤ s', .v undef, [(n, some (.row e s' (rows.set i (put (rows.getD i []) off ds)) false))])
        | _, _ => none
      | _ => none
    | _, _ => none
  | .makeSlice t l c => match elt P t, ev as l, ev as c with
    | some (e, sz), .v (.int _ l), .v (.int _ c) => match zer P e, zds P e, apf P e with
      | some zs, some zd, some (_, by_) => some (0 ≤ l ∧ l ≤ c ∧ (by_ : Int) * c ≤ 281474976710656 ∧ c ≤ maxLen ∧ zs.all (·.oneCell') = true, .ob k l.toNat, [(k, some (.row e sz (List.replicate l.toNat zd) false))])
      | _, _, _ => none
    | _, _, _ => none
  | .makeMap t none => match mpt P t with
    | some (q, _) => some (True, .mp k, [(k, some (.map q fun _ => none))])
    | none => none
  | .mapUpdate t x y z => match mpt P t, ev as x, ev as y with
    | some (q, _), .mp n, .v (.int q' i) => match as.ob n, toDs as.ob [ev as z] with
      | some (.map q2 f), some [d] => some (q' = q ∧ q2 = q, .v undef, [(n, some (.map q (mset f i d)))])
      | _, _ => none
    | _, _, _ => none
  | .insert t x y z => match mpt P t, ev as x, ev as y with
    | some (q, _), .mp n, .v (.int q' i) => match as.ob n, toDs as.ob [ev as z] with
      | some (.map q2 f), some [d] => some (q' = q ∧ q2 = q, .v undef, [(n, some (.map q (mset f i d)))])
      | _, _ => none
    | _, _, _ => none
  | .lookup t x y ok => match mpt P t, ev as x, ev as y with
    | some (q, et), .mp n, .v (.int q' i) => match as.ob n, zro P et with
      | some (.map q2 f), some z => some (q' = q ∧ q2 = q, bif ok then .tup [mget (f i) z, .v (.bool (f i).isSome)] else mget (f i) z, [])
      | _, _ => none
    | some (q, et), .fs p, .v (.int q' i) => match zro P et with
      | some (.bool false) => some (q' = q ∧ q = .i64, bif ok then .tup [.v (.bool (inS p i)), .v (.bool (inS p i))] else .v (.bool (inS p i)), [])
      | _ => none
    | _, _, _ => none
  | .range t x => match mpt P t, ev as x with
    | some (.i64, _), .fs p => some (True, .ptr k 0, [(k, some (.opq (MIt p (enumS p) none)))])
    | _, _ => none
  | .buildSlice t len parts => match elt P t with
    | some (e, sz) => match zer P e, apf P e with
      | some zs, some _ => match aFill (fun i => some (i * sz, sz)) ((List.replicate len (zs.map .v)).flatten) (parts.toList.map fun q => (q.1, ev as q.2)) with
        | some (p, cs) => match toDs as.ob cs with
          | some ds => some (p ∧ len * sz ≤ 16777216 ∧ zs.all (·.oneCell') = true, .ob k len, [(k, some (.row e sz (chunks sz len ds) false))])
          | none => none
        | none => none
      | _, _ => none
    | none => none
  | .build t parts => match zer P t, stf P t, arr P t with
    | some zs, some pl, _ => match aFill (fun i => pl[i]?) (zs.map .v) (parts.toList.map fun q => (q.1, ev as q.2)) with
      | some (p, cs) => some (p ∧ zs.all (·.oneCell') = true, .agg cs, [])
      | none => none
    | some zs, none, some (_, _, sz) => match aFill (fun i => some (i * sz, sz)) (zs.map .v) (parts.toList.map fun q => (q.1, ev as q.2)) with
      | some (p, cs) => some (p ∧ zs.all (·.oneCell') = true, .agg cs, [])
      | none => none
    | _, _, _ => none
  | .slice t x lo hi none => match ev as x with
    | .ob n _ => match as.ob n with
      | some (.row _ sz rows true) => match pSlice P t (.sl sz rows) (lo.map (ev as)) (hi.map (ev as)) none with
        | some (p, r) => some (p, r, [])
        | none => none
      | _ => none
    | _ => none
  | .call c => match c.callee with
    | .builtin .append => match c.args.toList, c.argTypes.toList with
      | [s, x], [t, t'] => match ev as x with
        | .v (.int _ n) => appZ P k t t' (ev as s) n
        | vx => appS P k as t t' (ev as s) vx
      | _, _ => none
    | _ => none
  | _ => none

section
variable {m : Mem} {w : World} {as : AS} {a : Act} {P : Program} {k : Nat}

theorem bind_ext (hk : m.β k = none) (v : Value) {c : AV} {x : Value} (h : Rep w m c x) {w' : World} (hh : ∀ b, m.I b → w'.heap[b]? = w.heap[b]?) : Rep w' (m.bind k v) c x := h.ext (fun _ h => h) hh (bind_beta hk)

/-- The conclusion of each law. -/
def Did (P : Program) (m : Mem) (w : World) (as : AS) (a : Act) (k : Nat) (o : Oper) (r : AV) (set : List (Nat × Option Obj)) : Prop :=
  ∃ nx u w' m', (execOp a.eval o).run P w = .ok nx w' ∧ (nx = .value u ∨ nx = .skip ∧ u = undef) ∧ Rep w' m' r u ∧ MR m' w' (app as.ob set) ∧ Ext w m as.ob w' m' (app as.ob set) ∧ ∀ n, n ≠ k → m'.β n = m.β n

theorem heap_old (hR : MR m w as.ob) (o : Go.Obj) : ∀ b, m.I b → (w.alloc o).heap[b]? = w.heap[b]? := fun b hb => heap_alloc_old w o (hR.imm b hb)

/-- a new box -/
theorem did_box (hR : Rel m w as a) (hk : m.β k = none) {o : Oper} {t : TypeId} {cs : List AV} {xs : Array Value} (hx : (execOp a.eval o).run P w = .ok (.value (.pointer (some ⟨w.heap.size, 0, none⟩))) (w.alloc (.cells xs t)))
    (hl : cs.length = xs.size) (h1 : ∀ y ∈ xs, y.oneCell' = true) (hr : ∀ i c, cs[i]? = some c → Rep w m c (xs.getD i undef)) : Did P m w as a k o (.ptr k 0) [(k, some (.box t cs))] := by
  refine ⟨_, _, _, m.bind k (.pointer (some ⟨w.heap.size, 0, none⟩)), hx, .inl rfl, .ptr _ _ _ (by simp [Mem.bind, upd]), ?_⟩
  obtain ⟨h2, h3⟩ := new_step (w' := w.alloc (.cells xs t)) (v := .pointer (some ⟨w.heap.size, 0, none⟩)) (o := .box t cs) hR.mr hk (fun b hb => heap_alloc_old w _ hb) (by simp) rfl rfl rfl
    ⟨w.heap.size, xs, rfl, heap_alloc_new w _, hl.symm, fun i c hc => bind_ext hk _ (hr i c hc) (heap_old hR.mr _), h1, fun hI => by have := hR.mr.imm _ hI; omega⟩
    (fun b hb => by simp [foot, blk] at hb; omega)
  exact ⟨h2, h3, fun n hn => by simp [Mem.bind, upd, hn]⟩

/-- a new row -/
theorem did_row (hR : Rel m w as a) (hk : m.β k = none) {o : Oper} {e sz cap : Nat} {rows : List (List DV)} {xs : Array Value} {w0 : World} (hw0 : w0.heap = w.heap) (ho : w0.os = w.os) (ht : w0.tape = w.tape) (hp : w0.output = w.output)
    (hx : (execOp a.eval o).run P w = .ok (.value (.slice (some ⟨w.heap.size, 0, none⟩) rows.length cap)) (w0.alloc (.cells xs e)))
    (hsz : ∀ r ∈ rows, r.length = sz) (hl : rows.length ≤ cap) (hc : cap ≤ maxLen) (hs : xs.size = cap * sz) (h1 : ∀ i, i < rows.length * sz → (xs.getD i undef).oneCell' = true)
    (hr : ∀ i r j d, rows[i]? = some r → r[j]? = some d → RD w m.I d (xs.getD (i * sz + j) undef)) : Did P m w as a k o (.ob k rows.length) [(k, some (.row e sz rows false))] := by
  refine ⟨_, _, _, m.bind k (.slice (some ⟨w.heap.size, 0, none⟩) rows.length cap), hx, .inl rfl, .ob _ _ _ _ (by simp [Mem.bind, upd]) (fun h => by cases h), ?_⟩
  have hnew : (w0.alloc (.cells xs e)).heap[w.heap.size]? = some (.cells xs e (0, 0)) := by rw [← hw0]; exact heap_alloc_new w0 _
  have hold : ∀ b, b < w.heap.size → (w0.alloc (.cells xs e)).heap[b]? = w.heap[b]? := fun b hb => by rw [heap_alloc_old w0 _ (by rw [hw0]; exact hb), hw0]
  obtain ⟨h2, h3⟩ := new_step (w' := w0.alloc (.cells xs e)) (v := .slice (some ⟨w.heap.size, 0, none⟩) rows.length cap) (o := .row e sz rows false) hR.mr hk hold (by simp [hw0]) ho ht hp
    ⟨hsz, .inr ⟨w.heap.size, cap, xs, rfl, hnew, hl, hc, hs, fun i r j d h h' => (hr i r j d h h').ext (fun _ h => h) (fun b hb => hold b (hR.mr.imm b hb)), h1, fun h => by (cases h), fun _ hI => by have := hR.mr.imm _ hI; omega⟩⟩
    (fun b hb => by simp [foot, blk] at hb; omega)
  exact ⟨h2, h3, fun n hn => by simp [Mem.bind, upd, hn]⟩

theorem storeVar_run {t sz ag : _} (ht : tyc P t = some (ag, sz)) {g off : Nat} {cur : Array Value} {et : TypeId} {x : Value} (hg : w.heap[g]? = some (.cells cur et (0, 0))) (hsz : x.cells.size = sz) (hfit : off + sz ≤ cur.size) (h1 : ∀ y ∈ x.cells, y.oneCell' = true) :
    (Instr.storeAt t (.pointer (some ⟨g, off, none⟩)) x).run P w = .ok () (w.setRow g (put cur.toList off x.cells.toList).toArray) := by
  have h := run_storeCells_at P g off et x.cells.toList 0 cur w hg (by simp; omega) (by simpa using h1)
  simp only [Nat.add_zero] at h
  rw [put_eq _ _ _ (by simp; omega)]
  simp [Instr.storeAt, Instr.sureAddr, storeVar, (tyc_isAgg ht w).2, hsz, h]

theorem set_heap {g : Nat} {cs cur : Array Value} {et : TypeId} (hg : w.heap[g]? = some (.cells cur et (0, 0))) : (w.setRow g cs).heap[g]? = some (.cells cs et (0, 0)) := setRow_heap w g cur cs et (0, 0) hg

theorem did_store (hR : Rel m w as a) {o : Oper} {t : TypeId} {x y : Operand} {r : AV} {p : Prop} {set : List (Nat × Option Obj)} (ho : o.op = .store t x y) (h : opD P k as (.store t x y) = some (p, r, set)) (hp : p) : Did P m w as a k o r set := by
  have hx := ev_rep hR x
  have hy := ev_rep hR y
  have hex : ∀ u w', (Instr.storeAt t (a.eval x) (a.eval y)).run P w = .ok u w' → (execOp a.eval o).run P w = .ok .skip w' := fun u w' hh => by
    simp only [execOp, ho, Sem.run_bind, hh]; rfl
  simp only [opD] at h
  split at h
  · rename_i ag sz p' cs ht hcs
    split at h
    · rename_i n off hev
      split at h
      · rename_i bt cells hn
        cases h
        obtain ⟨hp', hcl, hfit⟩ := hp
        obtain ⟨h1, h2, h3⟩ := cellsOf_rep hcs hp' hy
        rw [hev] at hx
        cases hx' : a.eval x with
        | pointer A =>
          rw [hx'] at hx
          cases hx with
          | ptr _ _ g hb =>
          obtain ⟨v, hv, g', cur, rfl, hheap, hsz, hrep, hone, hI⟩ := hR.mr.obs n _ hn
          rw [hb] at hv
          cases hv
          have hrun := storeVar_run (w := w) (x := a.eval y) ht (g := g) (off := off) hheap (by omega) (by omega) h2
          rw [← hx'] at hrun
          have hlen : (put cur.toList off (a.eval y).cells.toList).length = cur.size := by rw [put_length]; simp
          have hkeep : ∀ b, b < w.heap.size → blk (.pointer (some ⟨g, 0, none⟩)) ≠ some b → (w.setRow g (put cur.toList off (a.eval y).cells.toList).toArray).heap[b]? = w.heap[b]? := fun b hb hne => setRow_other w g b _ (fun e => hne (by simp [blk, e]))
          have hget : ∀ i : Nat, (put cur.toList off (a.eval y).cells.toList)[i]? = if i < off then cur[i]? else if i < off + sz then (a.eval y).cells[i - off]? else cur[i]? := fun i => by
            rw [put_get _ _ _ (by simp; omega)]
            simp [← h1, hcl]
          obtain ⟨hm, he⟩ := set_step (w' := w.setRow g (put cur.toList off (a.eval y).cells.toList).toArray) (o' := .box bt (put cells off cs)) hR.mr hn rfl hb hkeep (by simp) rfl rfl rfl
            ⟨g, _, rfl, set_heap hheap, by simp [put_length, hsz], fun i c hc => by
              rw [put_get _ _ _ (by omega)] at hc
              have hb' : ∀ b, m.I b → (w.setRow g (put cur.toList off (a.eval y).cells.toList).toArray).heap[b]? = w.heap[b]? := fun b hb => setRow_other w g b _ (fun e => hI (e ▸ hb))
              have hgd : (put cur.toList off (a.eval y).cells.toList).toArray.getD i undef = if i < off then cur.getD i undef else if i < off + sz then (a.eval y).cells.getD (i - off) undef else cur.getD i undef := by
                rw [Array.getD_eq_getD_getElem?, List.getElem?_toArray, hget]
                split
                · simp [Array.getD_eq_getD_getElem?]
                · split <;> simp [Array.getD_eq_getD_getElem?]
              rw [hgd]
              split
              · rename_i h'; rw [if_pos h'] at hc; exact (hrep _ _ hc).ext (fun _ h => h) hb' (fun _ _ h => h)
              · rename_i h'
                rw [if_neg h'] at hc
                split
                · rename_i h''; rw [if_pos (by omega)] at hc; exact (h3 _ _ hc).ext (fun _ h => h) hb' (fun _ _ h => h)
                · rename_i h''; rw [if_neg (by omega)] at hc; exact (hrep _ _ hc).ext (fun _ h => h) hb' (fun _ _ h => h),
             fun z hz => by
              obtain ⟨i, hi⟩ := Array.mem_iff_getElem?.1 hz
              rw [List.getElem?_toArray, hget] at hi
              split at hi
              · exact hone z (Array.mem_of_getElem? hi)
              · split at hi
                · exact h2 z (Array.mem_of_getElem? hi)
                · exact hone z (Array.mem_of_getElem? hi), hI⟩ (fun _ h => h)
          exact ⟨_, undef, _, m, hex _ _ hrun, .inr ⟨rfl, rfl⟩, .v _, hm, he, fun _ _ => rfl⟩
        | _ => rw [hx'] at hx; cases hx
      · cases h
    · rename_i n s i off hev
      split at h
      · rename_i e s' rows ds hn hds
        cases h
        obtain ⟨hp', hcl, rfl, hi, hfit⟩ := hp
        obtain ⟨h1, h2, h3⟩ := cellsOf_rep hcs hp' hy
        obtain ⟨hdl, hdg⟩ := toDs_get hds
        rw [hev] at hx
        cases hx' : a.eval x with
        | pointer A =>
          rw [hx'] at hx
          cases hx with
          | obp _ _ _ _ g len c hb =>
          obtain ⟨v, hv, hsz, hh⟩ := hR.mr.obs n _ hn
          rw [hb] at hv
          cases hv
          rcases hh with ⟨_, rfl⟩ | ⟨g', cap, cur, hE, hheap, hlc, hcm, hcs', hrep, hone, hf, hnI⟩
          · simp at hi
          injection hE with e1 e2 e3
          cases e1
          subst e2; subst e3
          have hI := hnI rfl
          have hrl : (rows.getD i []).length = s := by
            have : rows.getD i [] = rows[i] := by simp [List.getD, hi]
            rw [this]; exact hsz _ (List.getElem_mem hi)
          have hpos : i * s + off + sz ≤ cur.size := by
            have h1 : (i + 1) * s ≤ c * s := Nat.mul_le_mul_right s (by omega)
            rw [Nat.add_mul] at h1
            omega
          have hrun := storeVar_run (w := w) (x := a.eval y) ht (g := g) (off := i * s + off) hheap (by omega) hpos h2
          rw [← hx'] at hrun
          have hkeep : ∀ b, b < w.heap.size → blk (.slice (some ⟨g, 0, none⟩) rows.length c) ≠ some b → (w.setRow g (put cur.toList (i * s + off) (a.eval y).cells.toList).toArray).heap[b]? = w.heap[b]? := fun b hb hne => setRow_other w g b _ (fun e => hne (by simp [blk, e]))
          have hgd : ∀ q : Nat, (put cur.toList (i * s + off) (a.eval y).cells.toList).toArray.getD q undef = if q < i * s + off then cur.getD q undef else if q < i * s + off + sz then (a.eval y).cells.getD (q - (i * s + off)) undef else cur.getD q undef := fun q => by
            rw [Array.getD_eq_getD_getElem?, List.getElem?_toArray, put_get _ _ _ (by simp; omega)]
            simp only [Array.length_toList, ← h1, hcl]
            split
            · simp [Array.getD_eq_getD_getElem?]
            · split <;> simp [Array.getD_eq_getD_getElem?]
          have hb' : ∀ b, m.I b → (w.setRow g (put cur.toList (i * s + off) (a.eval y).cells.toList).toArray).heap[b]? = w.heap[b]? := fun b hb => setRow_other w g b _ (fun e => hI (e ▸ hb))
          obtain ⟨hm, he⟩ := set_step (w' := w.setRow g (put cur.toList (i * s + off) (a.eval y).cells.toList).toArray) (o' := .row e s (rows.set i (put (rows.getD i []) off ds)) false) hR.mr hn rfl hb hkeep (by simp) rfl rfl rfl
            ⟨fun r hr => by
              rcases List.mem_or_eq_of_mem_set hr with h | h
              · exact hsz r h
              · rw [h, put_length, hrl],
             .inr ⟨g, c, _, by rw [List.length_set], set_heap hheap, by rw [List.length_set]; exact hlc, hcm, by simp [put_length, hcs'], fun i' r j d hr hd => by
              have hjs : j < s := by
                have hjl : j < r.length := by
                  rcases Nat.lt_or_ge j r.length with h | h
                  · exact h
                  · rw [List.getElem?_eq_none h] at hd; cases hd
                have : r.length = s := by
                  rcases List.mem_or_eq_of_mem_set (List.mem_of_getElem? hr) with h | h
                  · exact hsz r h
                  · rw [h, put_length, hrl]
                omega
              rw [hgd]
              rw [List.getElem?_set] at hr
              by_cases hii : i = i'
              · subst hii
                rw [if_pos rfl, if_pos hi] at hr
                cases hr
                rw [put_get _ _ _ (by omega)] at hd
                by_cases c1 : j < off
                · rw [if_pos (by omega)]
                  rw [if_pos c1] at hd
                  exact (hrep i (rows.getD i []) j d (by simp [List.getD, hi]) hd).ext (fun _ h => h) hb'
                · rw [if_neg c1] at hd
                  rw [if_neg (by omega)]
                  by_cases c2 : j < off + ds.length
                  · rw [if_pos c2] at hd
                    rw [if_pos (by omega)]
                    obtain ⟨c, hc, hcd⟩ := hdg _ _ hd
                    have := toD_rep hR.mr hcd (h3 _ _ hc)
                    have e : i * s + j - (i * s + off) = j - off := by omega
                    rw [e]
                    exact this.ext (fun _ h => h) hb'
                  · rw [if_neg c2] at hd
                    rw [if_neg (by omega)]
                    exact (hrep i (rows.getD i []) j d (by simp [List.getD, hi]) hd).ext (fun _ h => h) hb'
              · rw [if_neg hii] at hr
                have hout : i' * s + j < i * s + off ∨ i * s + off + sz ≤ i' * s + j := by
                  rcases Nat.lt_or_gt_of_ne hii with h | h
                  · right
                    have h2 : (i + 1) * s ≤ i' * s := Nat.mul_le_mul_right s (by omega)
                    rw [Nat.add_mul] at h2
                    omega
                  · left
                    have h2 : (i' + 1) * s ≤ i * s := Nat.mul_le_mul_right s (by omega)
                    rw [Nat.add_mul] at h2
                    omega
                have : (if i' * s + j < i * s + off then cur.getD (i' * s + j) undef else if i' * s + j < i * s + off + sz then (a.eval y).cells.getD (i' * s + j - (i * s + off)) undef else cur.getD (i' * s + j) undef) = cur.getD (i' * s + j) undef := by
                  rcases hout with h | h
                  · rw [if_pos h]
                  · rw [if_neg (by omega), if_neg (by omega)]
                rw [this]
                exact (hrep i' r j d hr hd).ext (fun _ h => h) hb',
              fun q hq => by
                rw [List.length_set] at hq
                rw [hgd]
                split
                · exact hone q hq
                · split
                  · exact h2 _ (mem_getD (by omega))
                  · exact hone q hq, fun h => by (cases h), fun _ => hI⟩⟩ (fun _ h => h)
          exact ⟨_, undef, _, m, hex _ _ hrun, .inr ⟨rfl, rfl⟩, .v _, hm, he, fun _ _ => rfl⟩
        | _ => rw [hx'] at hx; cases hx
      · cases h
    · cases h
  · cases h

/-- The rows that an append takes from: their cells, one after another. -/
theorem src_cells (hR : MR m w as.ob) {x : AV} {vx : Value} {sz : Nat} {rows : List (List DV)} (h : srcRows as x = some (sz, rows)) (hx : Rep w m x vx) :
    ∃ A c, vx = .slice A rows.length c ∧ (∀ r ∈ rows, r.length = sz) ∧ (rows = [] ∨ ∃ (ad : Addr) (f : Nat → Value), A = some ad ∧ (∀ q, q < rows.length * sz → w.cell? (ad.add q) = some (f q) ∧ (f q).oneCell' = true) ∧ ∀ (i : Nat) r (j : Nat) d, rows[i]? = some r → r[j]? = some d → RD w m.I d (f (i * sz + j))) := by
  cases x with
  | sl sz0 rows0 =>
    cases h
    cases hx with
    | sl _ _ _ hx =>
    cases hx with
    | sl0 _ A c hc => exact ⟨A, c, rfl, by simp, .inl rfl⟩
    | sl _ _ b o c cell hsz hlen hc hI hcell h1 hrep =>
      refine ⟨_, c, rfl, hsz, .inr ⟨_, fun q => cell (q / sz) (q % sz), rfl, fun q hq => ?_, fun i r j d hr hd => ?_⟩⟩
      · have hs : 0 < sz := by
          rcases Nat.eq_zero_or_pos sz with h0 | h0
          · subst h0; simp at hq
          · exact h0
        have h2 : q / sz < rows.length := (Nat.div_lt_iff_lt_mul hs).2 hq
        have h3 : q % sz < sz := Nat.mod_lt _ hs
        refine ⟨?_, h1 _ _ h2 h3⟩
        rw [add_lit', ← hcell _ _ h2 h3, Nat.div_add_mod']
      · have hj : j < sz := by
          have := hsz r (List.mem_of_getElem? hr)
          rcases Nat.lt_or_ge j r.length with h | h
          · omega
          · rw [List.getElem?_eq_none h] at hd; cases hd
        have e1 : (i * sz + j) / sz = i := by
          rw [Nat.mul_comm, Nat.mul_add_div (by omega), Nat.div_eq_of_lt hj]; rfl
        have e2 : (i * sz + j) % sz = j := by
          rw [Nat.mul_comm, Nat.mul_add_mod, Nat.mod_eq_of_lt hj]
        show RD w m.I d (cell ((i * sz + j) / sz) ((i * sz + j) % sz))
        rw [e1, e2]
        exact hrep i r j d hr hd
  | ob n len =>
    simp only [srcRows] at h
    split at h
    · rename_i e sz' rows' fz hn
      cases h
      cases hx with
      | ob _ _ A c hb =>
      obtain ⟨v, hv, hsz, hh⟩ := hR.obs _ _ hn
      rw [hb] at hv
      cases hv
      rcases hh with ⟨hE, rfl⟩ | ⟨g, cap, cur, hE, hheap, hlc, hcm, hcs, hrep, hone, _⟩
      · injection hE with e1 e2 e3
        subst e2; subst e3
        exact ⟨A, 0, rfl, by simp, .inl rfl⟩
      · injection hE with e1 e2 e3
        subst e1; subst e2; subst e3
        refine ⟨_, c, rfl, hsz, .inr ⟨_, fun q => cur.getD q undef, rfl, fun q hq => ⟨?_, hone q hq⟩, hrep⟩⟩
        rw [add_lit', cell_of_row w g _ cur e (0, 0) hheap]
        have h2 : rows.length * sz ≤ c * sz := Nat.mul_le_mul_right _ hlc
        have : q < cur.size := by omega
        simp [Array.getD, this]
    · cases h
  | _ => simp [srcRows] at h

theorem run_append_zero {t ty e n c c' : Nat} {i : TypeInfo} (ht : P.underlying t = some (.slice e)) (hi : P.info? e = some i) (A B : Option Addr) (hn : n ≤ c) (hB : B = none → n = 0 ∧ c = 0) :
    (Builtin.append_ #[t, t] ty #[.slice B n c, .slice A 0 c']).run P w = .ok (.slice B n c) w := by
  cases B with
  | none =>
    obtain ⟨rfl, rfl⟩ := hB rfl
    cases A <;> simp [Builtin.append_, run_underlying ht, sizeOf, typeInfo, hi, Builtin.lenOf, Builtin.firstCells, loadCells, loadCellsFrom]
  | some b => cases A <;> simp [Builtin.append_, run_underlying ht, sizeOf, typeInfo, hi, Builtin.lenOf, Builtin.firstCells, hn, storeCells, loadCells, loadCellsFrom]

theorem append_exec {o : Oper} {c : Call} {t : TypeId} {s x : Operand} (ho : o.op = .call c) (hc : c.callee = .builtin .append) (ha : c.args.toList = [s, x]) (ht : c.argTypes.toList = [t, t]) {v : Value} {w' : World}
    (h : (Builtin.append_ #[t, t] o.type #[a.eval s, a.eval x]).run P w = .ok v w') : (execOp a.eval o).run P w = .ok (.value v) w' := by
  have e1 : c.args = #[s, x] := by simpa using congrArg List.toArray ha
  have e2 : c.argTypes = #[t, t] := by simpa using congrArg List.toArray ht
  simp [execOp, ho, resolve, invoke, hc, e1, e2, builtin, h]

theorem take_getD {xs : Array Value} {n i : Nat} (h : i < n) : (xs.toList.take n)[i]? = xs[i]? := by
  rw [List.getElem?_take, if_pos h]; simp

theorem did_use (hR : Rel m w as a) (hk : m.β k = none) {o : Oper} {n e sz cap : Nat} {rows rows2 : List (List DV)} {x : Value} {A : Option Addr} {w' : World} (hn : as.ob n = some (.row e sz rows false)) (hb : m.β n = some x)
    (hx : (execOp a.eval o).run P w = .ok (.value (.slice A rows2.length cap)) w') (hh : ∀ b, b < w.heap.size → ¬ (blk x = some b) → w'.heap[b]? = w.heap[b]?) (hs : w.heap.size ≤ w'.heap.size) (h1 : w'.os = w.os) (h2 : w'.tape = w.tape) (h3 : w'.output = w.output)
    (hat : RowAt w' m e sz rows2 false (.slice A rows2.length cap)) (hblk : ∀ b, blk (.slice A rows2.length cap) = some b → blk x = some b ∨ w.heap.size ≤ b) : Did P m w as a k o (.ob k rows2.length) [(n, none), (k, some (.row e sz rows2 false))] := by
  refine ⟨_, _, _, m.bind k (.slice A rows2.length cap), hx, .inl rfl, .ob _ _ _ _ (by simp [Mem.bind, upd]) (fun hA => by
    rcases hat.2 with ⟨_, hr⟩ | ⟨g, cap', cur, he, _⟩
    · rw [hr]; rfl
    · rw [hA] at he; cases he), ?_⟩
  obtain ⟨h4, h5⟩ := use_step (w' := w') (v := .slice A rows2.length cap) (o' := .row e sz rows2 false) hR.mr hn rfl hb hk hh hs h1 h2 h3 hat hblk
  exact ⟨h4, h5, fun n hn => by simp [Mem.bind, upd, hn]⟩

theorem news_of {rows : List (List DV)} {sz : Nat} {ad : Addr} {f : Nat → Value} (hf : ∀ q, q < rows.length * sz → w.cell? (ad.add q) = some (f q) ∧ (f q).oneCell' = true) : ∀ j u, ((List.range (rows.length * sz)).map f)[j]? = some u → w.cell? (ad.add j) = some u := fun j u hj => by
  rw [List.getElem?_map, Option.map_eq_some_iff] at hj
  obtain ⟨q, hq, rfl⟩ := hj
  have hlt : j < rows.length * sz := by
    rcases Nat.lt_or_ge j (rows.length * sz) with h | h
    · exact h
    · rw [List.getElem?_eq_none (by simpa using h)] at hq; cases hq
  rw [List.getElem?_range hlt] at hq
  cases hq
  exact (hf j hlt).1

/-- Cells 'xs' (of 'rows') and behind them those of 'rows2': the rows of both. -/
theorem both_rows {I : Nat → Prop} {W : World} {rows rows2 : List (List DV)} {sz : Nat} {g f : Nat → Value} {cur : Array Value} (hsz : ∀ r ∈ rows, r.length = sz) (hsz2 : ∀ r ∈ rows2, r.length = sz)
    (hg : ∀ (i : Nat) r (j : Nat) d, rows[i]? = some r → r[j]? = some d → RD W I d (g (i * sz + j))) (hf : ∀ (i : Nat) r (j : Nat) d, rows2[i]? = some r → r[j]? = some d → RD W I d (f (i * sz + j)))
    (h1 : ∀ q, q < rows.length * sz → cur.getD q undef = g q) (h2 : ∀ q, q < rows2.length * sz → cur.getD (rows.length * sz + q) undef = f q) :
    ∀ (i : Nat) r (j : Nat) d, (rows ++ rows2)[i]? = some r → r[j]? = some d → RD W I d (cur.getD (i * sz + j) undef) := by
  intro i r j d hr hd
  by_cases hi : i < rows.length
  · rw [List.getElem?_append_left hi] at hr
    have hj : j < sz := by
      have := hsz r (List.mem_of_getElem? hr)
      rcases Nat.lt_or_ge j r.length with h | h
      · omega
      · rw [List.getElem?_eq_none h] at hd; cases hd
    rw [h1 _ (row_bound hi hj)]
    exact hg i r j d hr hd
  · rw [List.getElem?_append_right (by omega)] at hr
    have hj : j < sz := by
      have := hsz2 r (List.mem_of_getElem? hr)
      rcases Nat.lt_or_ge j r.length with h | h
      · omega
      · rw [List.getElem?_eq_none h] at hd; cases hd
    have hi2 : i - rows.length < rows2.length := by
      rcases Nat.lt_or_ge (i - rows.length) rows2.length with h | h
      · exact h
      · rw [List.getElem?_eq_none h] at hr; cases hr
    have e : i * sz + j = rows.length * sz + ((i - rows.length) * sz + j) := by
      have : i = rows.length + (i - rows.length) := by omega
      conv => lhs; rw [this, Nat.add_mul]
      omega
    rw [e, h2 _ (row_bound hi2 hj)]
    exact hf _ r j d hr hd

theorem made_getD {z : Array Value} {n q : Nat} (h : q < n * z.size) (hz : 0 < z.size) : (Builtin.zeroCells z n).getD q undef = z.getD (q % z.size) undef := by
  have hlt : q % z.size < z.size := Nat.mod_lt _ hz
  rw [Array.getD_eq_getD_getElem?, Builtin.zeroCells, Array.getElem?_map, Array.getElem?_range]
  simp [h, hlt, Array.getD]

theorem did_appZ (hR : Rel m w as a) (hk : m.β k = none) {o : Oper} {c : Call} {s x : Operand} {t t' : TypeId} {kn : IntKind} {n : Int} {r : AV} {p : Prop} {set : List (Nat × Option Obj)} (ho : o.op = .call c) (hc : c.callee = .builtin .append) (ha : c.args.toList = [s, x]) (hat : c.argTypes.toList = [t, t'])
    (hevx : ev as x = .v (.int kn n)) (h : appZ P k t t' (ev as s) n = some (p, r, set)) (hp : p) : Did P m w as a k o r set := by
  have hs := ev_rep hR s
  have hx := ev_rep hR x
  rw [hevx] at hx
  have hvx : a.eval x = .int kn n := rep_v hx
  unfold appZ at h
  split at h
  · rename_i e sz ht
    obtain ⟨hu, ti, hti, hts⟩ := elt_some ht
    split at h
    · rename_i zs sz0 by_ hz hap
      obtain ⟨ti', z, hti', hz', hzs, hpos, hsz0, hby⟩ := apf_some hap
      rw [hti] at hti'
      cases hti'
      obtain ⟨i2, z2, hi2, hz2, rfl⟩ := zer_some hz
      rw [hti] at hi2
      cases hi2
      rw [hz'] at hz2
      cases hz2
      split at h
      · rename_i hev
        cases h
        obtain ⟨⟨q, hq⟩, h0, hb1, hb2, hall⟩ := hp
        rw [hev] at hs
        have hvs : a.eval s = .slice none 0 0 := rep_v hs
        have e1 : c.args = #[s, x] := by simpa using congrArg List.toArray ha
        have e2 : c.argTypes = #[t, t'] := by simpa using congrArg List.toArray hat
        have hw : IntKind.i64.wrap n = n := by rw [IntKind.wrap_i64]; simp only [maxLen] at hb2; omega
        have hex : ∀ v w', (Builtin.append_ #[t, t'] o.type #[.slice none 0 0, .int kn n]).run P w = .ok v w' → (execOp a.eval o).run P w = .ok (.value v) w' := fun v w' hh => by
          rw [← hvs, ← hvx] at hh
          simp [execOp, ho, resolve, invoke, hc, e1, e2, builtin, hh]
        have nb : ¬ (281474976710656 < n * (ti.bytes : Int)) := by rw [hby]; omega
        have hzz : z.cells.size = sz := by omega
        by_cases hn0 : n = 0
        · subst hn0
          have hrun : (Builtin.append_ #[t, t'] o.type #[.slice none 0 0, .int kn 0]).run P w = .ok (.slice none 0 0) w := by
            simp [Builtin.append_, run_underlying hu, run_underlying hq, sizeOf, typeInfo, hti, asInt, asIntOf, hw]
          refine ⟨_, _, _, m.bind k (.slice none 0 0), hex _ _ hrun, .inl rfl, .ob _ _ _ _ (by simp [Mem.bind, upd]) (fun _ => rfl), ?_⟩
          obtain ⟨h2, h3⟩ := new_step (w' := w) (v := .slice none 0 0) (o := .row e sz [] false) hR.mr hk (fun _ _ => rfl) (Nat.le_refl _) rfl rfl rfl ⟨by simp, .inl ⟨rfl, rfl⟩⟩ (fun b hb => by simp [foot, blk] at hb)
          exact ⟨h2, h3, fun n hn => by simp [Mem.bind, upd, hn]⟩
        · have hnpos : 0 < n.toNat := by omega
          have hge := grownCap_ge w n.toNat 0 e
          have hcm := grownCap_le_maxLen w n.toNat 0 e (by omega)
          have hnz : ¬ (n.toNat * ti.size = 0) := by
            rw [hsz0]
            exact Nat.mul_ne_zero (by omega) (by omega)
          have hfit : ¬ (281474976710656 < Builtin.nextslicecap n.toNat 0 * ti.bytes) := by
            rw [nextslicecap_zero hnpos, hby]
            have : (n.toNat : Int) * by_ = n * by_ := by rw [Int.toNat_of_nonneg h0]
            omega
          have h63 : ¬ (9223372036854775807 < n) := by simp only [maxLen] at hb2; omega
          have hneg : ¬ (n < 0) := by omega
          have hrun : (Builtin.append_ #[t, t'] o.type #[.slice none 0 0, .int kn n]).run P w =
              .ok (.slice (some ⟨w.heap.size, 0, none⟩) n.toNat (grownCap w n.toNat 0 e)) (w.drew.alloc (.cells (Builtin.zeroCells z.cells n.toNat ++ Builtin.zeroCells z.cells (grownCap w n.toNat 0 e - n.toNat)) e)) := by
            have hn0' : ¬ (n.toNat = 0) := by omega
            have hcast : ((n.toNat : Nat) : Int) = n := Int.toNat_of_nonneg h0
            simp [Builtin.append_, run_underlying hu, run_underlying hq, sizeOf, typeInfo, zeroValue, hti, hz', asInt, asIntOf, hw, hneg, nb, hn0', hnz, h63, hfit, hcast, Question.forced, run_firstCells_none, newRow, grownCap]
            simp only [maxLen] at hb2
            rw [if_neg (by omega), if_neg (by omega)]
          have hlen : (List.replicate n.toNat (z.cells.toList.map DV.v)).length = n.toNat := List.length_replicate
          have hge' : n.toNat ≤ grownCap w n.toNat 0 e := hge
          have hx' := hex _ _ hrun
          have hD := did_row (sz := sz) (rows := List.replicate n.toNat (z.cells.toList.map DV.v)) (xs := Builtin.zeroCells z.cells n.toNat ++ Builtin.zeroCells z.cells (grownCap w n.toNat 0 e - n.toNat)) hR hk (w0 := w.drew) rfl rfl rfl rfl
            (by rw [hlen]; exact hx') (by intro r hr; rw [List.eq_of_mem_replicate hr, List.length_map, Array.length_toList]; omega) (by rw [hlen]; exact hge') hcm
            (by simp only [Array.size_append, size_zeroCells]
                rw [hzz, ← Nat.add_mul]
                congr 1
                omega)
            (fun i hi => by
              rw [hlen] at hi
              have hi' : i < n.toNat * z.cells.size := by rw [hzz]; exact hi
              rw [Array.getD_eq_getD_getElem?, Array.getElem?_append_left (by rw [size_zeroCells]; exact hi'), ← Array.getD_eq_getD_getElem?, made_getD hi' (by omega)]
              have hall' : ∀ y ∈ z.cells.toList, y.oneCell' = true := fun y hy => List.all_eq_true.1 hall y hy
              exact hall' _ (by simpa using mem_getD (Nat.mod_lt _ (by omega))))
            (fun i r j d hr hd => by
              have hr' := List.eq_of_mem_replicate (List.mem_of_getElem? hr)
              subst hr'
              have hi : i < n.toNat := by
                rcases Nat.lt_or_ge i n.toNat with h | h
                · exact h
                · rw [List.getElem?_eq_none (by simpa using h)] at hr; cases hr
              rw [List.getElem?_map, Option.map_eq_some_iff] at hd
              obtain ⟨v, hv, rfl⟩ := hd
              have hj : j < sz := by
                rcases Nat.lt_or_ge j z.cells.toList.length with h | h
                · simp at h; omega
                · rw [List.getElem?_eq_none h] at hv; cases hv
              have hb := row_bound hi hj
              have hi' : i * sz + j < n.toNat * z.cells.size := by rw [hzz]; exact hb
              rw [Array.getD_eq_getD_getElem?, Array.getElem?_append_left (by rw [size_zeroCells]; exact hi'), ← Array.getD_eq_getD_getElem?, made_getD hi' (by omega), hzz, Nat.mul_comm i sz, Nat.mul_add_mod, Nat.mod_eq_of_lt hj, getD_get? (by simpa using hv)]
              exact .v _)
          rw [hlen] at hD
          exact hD
      · cases h
    · cases h
  · cases h

theorem did_append (hR : Rel m w as a) (hk : m.β k = none) {o : Oper} {c : Call} {r : AV} {p : Prop} {set : List (Nat × Option Obj)} (ho : o.op = .call c) (hc : c.callee = .builtin .append) (h : opD P k as (.call c) = some (p, r, set)) (hp : p) : Did P m w as a k o r set := by
  simp only [opD, hc] at h
  split at h
  · rename_i s x t t' ha hat
    have hs := ev_rep hR s
    have hx := ev_rep hR x
    split at h
    case h_1 kn n hevx => exact did_appZ hR hk ho hc ha hat hevx h hp
    unfold appS at h
    split at h
    · rename_i e sz ht
      obtain ⟨hu, ti, hti, hts⟩ := elt_some ht
      split at h
      · rename_i sz0 by_ sz' rows' hap hsrc
        obtain ⟨ti', z, hti', hz, hzs, hpos, hsz0, hby⟩ := apf_some hap
        rw [hti] at hti'
        cases hti'
        obtain ⟨A, cc, hvx, hrsz, hcells⟩ := src_cells hR.mr hsrc hx
        split at h
        · -- onto nil
          rename_i hev
          cases h
          obtain ⟨rfl, hszz, hb1, hb2⟩ := hp
          rw [hev] at hs
          have hvs : a.eval s = .slice none 0 0 := rep_v hs
          rcases hcells with rfl | ⟨ad, f, rfl, hf, hfr⟩
          · have hrun := run_append_zero (w := w) (P := P) (t := t) (ty := o.type) (e := e) (n := 0) (c := 0) (c' := cc) hu hti A none (by omega) (fun _ => ⟨rfl, rfl⟩)
            rw [← hvs] at hrun
            simp only [List.length_nil] at hvx
            rw [← hvx] at hrun
            refine ⟨_, _, _, m.bind k (.slice none 0 0), append_exec ho hc ha hat hrun, .inl rfl, by rw [hvs]; exact .ob _ _ _ _ (by simp [Mem.bind, upd]) (fun _ => rfl), ?_⟩
            obtain ⟨h2, h3⟩ := new_step (w' := w) (v := .slice none 0 0) (o := .row e sz [] false) hR.mr hk (fun _ _ => rfl) (Nat.le_refl _) rfl rfl rfl ⟨by simp, .inl ⟨rfl, rfl⟩⟩ (fun b hb => by simp [foot, blk] at hb)
            exact ⟨h2, h3, fun n hn => by simp [Mem.bind, upd, hn]⟩
          · by_cases h0 : rows'.length = 0
            · have : rows' = [] := List.eq_nil_of_length_eq_zero h0
              subst this
              have hrun := run_append_zero (w := w) (P := P) (t := t) (ty := o.type) (e := e) (n := 0) (c := 0) (c' := cc) hu hti (some ad) none (by omega) (fun _ => ⟨rfl, rfl⟩)
              rw [← hvs] at hrun
              simp only [List.length_nil] at hvx
              rw [← hvx] at hrun
              refine ⟨_, _, _, m.bind k (.slice none 0 0), append_exec ho hc ha hat hrun, .inl rfl, by rw [hvs]; exact .ob _ _ _ _ (by simp [Mem.bind, upd]) (fun _ => rfl), ?_⟩
              obtain ⟨h2, h3⟩ := new_step (w' := w) (v := .slice none 0 0) (o := .row e sz [] false) hR.mr hk (fun _ _ => rfl) (Nat.le_refl _) rfl rfl rfl ⟨by simp, .inl ⟨rfl, rfl⟩⟩ (fun b hb => by simp [foot, blk] at hb)
              exact ⟨h2, h3, fun n hn => by simp [Mem.bind, upd, hn]⟩
            · have hszeq : sz' = sz := hszz.resolve_right (fun h => h0 (by simp [h]))
              subst hszeq
              have hnl : ((List.range (rows'.length * sz')).map f).length = rows'.length * ti.size := by simp [hts]
              have hnews : ∀ j u, ((List.range (rows'.length * sz')).map f)[j]? = some u → w.cell? (ad.add j) = some u := fun j u hj => by
                rw [List.getElem?_map, Option.map_eq_some_iff] at hj
                obtain ⟨q, hq, rfl⟩ := hj
                have hq' := List.getElem?_range (n := rows'.length * sz') (i := j)
                have hlt : j < rows'.length * sz' := by
                  rcases Nat.lt_or_ge j (rows'.length * sz') with h | h
                  · exact h
                  · rw [List.getElem?_eq_none (by simpa using h)] at hq; cases hq
                rw [List.getElem?_range hlt] at hq
                cases hq
                exact (hf j hlt).1
              have hrun := run_append_nil (P := P) w t o.type e ti z hu hti hz ad rows'.length cc _ hnl hnews (by omega) (by simp only [maxLen] at hb2; omega) (by rw [hby]; omega)
              rw [← hvs, ← hvx] at hrun
              have hge := grownCap_ge w rows'.length 0 e
              refine did_row (xs := ((List.range (rows'.length * sz')).map f).toArray ++ Builtin.zeroCells z.cells (grownCap w rows'.length 0 e - rows'.length)) hR hk (w0 := w.drew) rfl rfl rfl rfl (append_exec ho hc ha hat hrun) hrsz hge (grownCap_le_maxLen w _ 0 e hb2) ?_ ?_ ?_
              · simp only [Array.size_append, List.size_toArray, size_zeroCells, hzs, List.length_map, List.length_range]
                rw [← hsz0, hts, ← Nat.add_mul]
                congr 1
                omega
              · intro i hi
                rw [Array.getD_eq_getD_getElem?, Array.getElem?_append_left (by simpa using hi)]
                simp [hi, (hf i hi).2]
              · intro i r j d hr hd
                have hj : j < sz' := by
                  have := hrsz r (List.mem_of_getElem? hr)
                  rcases Nat.lt_or_ge j r.length with h | h
                  · omega
                  · rw [List.getElem?_eq_none h] at hd; cases hd
                have hi : i < rows'.length := by
                  rcases Nat.lt_or_ge i rows'.length with h | h
                  · exact h
                  · rw [List.getElem?_eq_none h] at hr; cases hr
                have hb := row_bound hi hj
                rw [Array.getD_eq_getD_getElem?, Array.getElem?_append_left (by simpa using hb)]
                simpa [hb] using hfr i r j d hr hd
        · -- onto one's own
          rename_i n len hev
          split at h
          · rename_i e' sz2 rows hn
            cases h
            obtain ⟨rfl, rfl, rfl, hszz, hb1, hb2⟩ := hp
            rw [hev] at hs
            generalize hvs : a.eval s = vs at hs
            cases hs with
            | ob _ _ A0 c0 hb0 =>
            obtain ⟨v0, hv0, hsz, hh⟩ := hR.mr.obs n _ hn
            rw [hb0] at hv0
            cases hv0
            have hszr : ∀ r ∈ rows', r.length = sz2 := by
              rcases hszz with rfl | rfl
              · exact hrsz
              · simp
            have hlenapp : (rows ++ rows').length = rows.length + rows'.length := by simp
            rw [← hlenapp]
            rcases hh with ⟨hE, rfl⟩ | ⟨g, cap, cur, hE, hheap, hlc, hcm, hcs, hrep, hone, _, hnI⟩
            · injection hE with e1 e2 e3
              subst e1; subst e2; subst e3
              by_cases h0 : rows' = []
              · subst h0
                have hrun := run_append_zero (w := w) (P := P) (t := t) (ty := o.type) (e := e') (n := 0) (c := 0) (c' := cc) hu hti A none (by omega) (fun _ => ⟨rfl, rfl⟩)
                rw [← hvs] at hrun
                simp only [List.length_nil] at hvx
                rw [← hvx] at hrun
                rw [hvs] at hrun
                exact did_use (cap := 0) (A := none) (rows2 := []) hR hk hn hb0 (append_exec ho hc ha hat (by rw [hvs]; exact hrun)) (fun _ _ _ => rfl) (Nat.le_refl _) rfl rfl rfl ⟨by simp, .inl ⟨rfl, rfl⟩⟩ (fun b hb => by simp [foot, blk] at hb)
              · obtain ⟨ad, f, rfl, hf, hfr⟩ := hcells.resolve_left h0
                have hszeq : sz' = sz2 := hszz.resolve_right h0
                subst hszeq
                have h0' : 0 < rows'.length := List.length_pos_iff.2 h0
                have hnl : ((List.range (rows'.length * sz')).map f).length = rows'.length * ti.size := by simp [hts]
                simp only [List.length_nil, Nat.zero_add] at hb1 hb2
                have hrun := run_append_nil (P := P) w t o.type e' ti z hu hti hz ad rows'.length cc _ hnl (news_of hf) h0' (by simp only [maxLen] at hb2; omega) (by rw [hby]; omega)
                have hge := grownCap_ge w rows'.length 0 e'
                have hat' := append_exec (a := a) (w := w) (P := P) ho hc ha hat (by rw [hvs, hvx]; exact hrun)
                refine did_use (rows2 := [] ++ rows') hR hk hn hb0 hat' (fun b hb _ => heap_alloc_old w.drew _ hb) (by simp) rfl rfl rfl ⟨by simpa using hrsz, .inr ⟨_, _, _, rfl, heap_alloc_new w.drew _, hge, grownCap_le_maxLen w _ 0 e' hb2, ?_, ?_, ?_, fun h => by (cases h), fun _ hI => ?_⟩⟩ (fun b hb => by simp [blk] at hb; simp [hb])
                · simp only [Array.size_append, List.size_toArray, size_zeroCells, hzs, List.length_map, List.length_range]
                  rw [← hsz0, hts, ← Nat.add_mul]
                  congr 1
                  omega
                · refine both_rows (g := fun _ => undef) (f := f) (by simp) hrsz (by simp) (fun i r j d hr hd => (hfr i r j d hr hd).ext (fun _ h => h) (fun b hb => heap_alloc_old w.drew _ (hR.mr.imm b hb))) (by simp) (fun q hq => ?_)
                  simp only [List.length_nil, Nat.zero_mul, Nat.zero_add]
                  rw [Array.getD_eq_getD_getElem?, Array.getElem?_append_left (by simpa using hq)]
                  simp [hq]
                · intro i hi
                  simp only [List.nil_append] at hi
                  rw [Array.getD_eq_getD_getElem?, Array.getElem?_append_left (by simpa using hi)]
                  simp [hi, (hf i hi).2]
                · have := hR.mr.imm _ hI
                  simp at this
            · injection hE with e1 e2 e3
              subst e1; subst e2; subst e3
              have hI := hnI rfl
              by_cases h0 : rows' = []
              · subst h0
                have hrun := run_append_zero (w := w) (P := P) (t := t) (ty := o.type) (e := e') (n := rows.length) (c := c0) (c' := cc) hu hti A (some ⟨g, 0, none⟩) hlc (fun h => by cases h)
                simp only [List.length_nil] at hvx
                have hat' := append_exec (a := a) (w := w) (P := P) ho hc ha hat (by rw [hvs, hvx]; exact hrun)
                have hnil : rows ++ [] = rows := List.append_nil _
                rw [hnil]
                exact did_use (rows2 := rows) hR hk hn hb0 hat' (fun _ _ _ => rfl) (Nat.le_refl _) rfl rfl rfl ⟨hsz, .inr ⟨g, _, cur, rfl, hheap, hlc, hcm, hcs, hrep, hone, fun h => by (cases h), hnI⟩⟩ (fun b hb => .inl hb)
              · obtain ⟨ad, f, rfl, hf, hfr⟩ := hcells.resolve_left h0
                have hszeq : sz' = sz2 := hszz.resolve_right h0
                subst hszeq
                have h0' : 0 < rows'.length := List.length_pos_iff.2 h0
                have hnl : ((List.range (rows'.length * sz')).map f).length = rows'.length * ti.size := by simp [hts]
                by_cases hroom : rows.length + rows'.length ≤ c0
                · have hfit : rows.length * ti.size + ((List.range (rows'.length * sz')).map f).length ≤ cur.size := by
                    rw [hnl, hcs, hts, ← Nat.add_mul]; exact Nat.mul_le_mul_right _ hroom
                  have hrun := run_append_room (P := P) w t o.type e' ti hu hti g rows.length c0 cur hheap ad rows'.length cc _ hnl (news_of hf) (by simp only [List.mem_map, List.mem_range]; rintro u ⟨q, hq, rfl⟩; exact (hf q hq).2) hroom hfit
                  have hat' := append_exec (a := a) (w := w) (P := P) ho hc ha hat (by rw [hvs, hvx]; exact hrun)
                  rw [← hlenapp] at hat'
                  rw [hts] at hat' hfit
                  have hfit' : rows.length * sz' + rows'.length * sz' ≤ cur.size := by simpa using hfit
                  have hget : ∀ q, q < rows.length * sz' + rows'.length * sz' → ((cur.toList.take (rows.length * sz') ++ (List.range (rows'.length * sz')).map f ++ cur.toList.drop (rows.length * sz' + ((List.range (rows'.length * sz')).map f).length)).toArray).getD q undef = if q < rows.length * sz' then cur.getD q undef else f (q - rows.length * sz') := fun q hq => by
                    have htl : (cur.toList.take (rows.length * sz')).length = rows.length * sz' := by simp; omega
                    rw [Array.getD_eq_getD_getElem?, List.getElem?_toArray, List.getElem?_append_left (by simp; omega)]
                    by_cases hq' : q < rows.length * sz'
                    · rw [List.getElem?_append_left (by omega), take_getD hq', if_pos hq', Array.getD_eq_getD_getElem?]
                    · rw [List.getElem?_append_right (by omega), htl, if_neg hq', List.getElem?_map, List.getElem?_range (by omega)]
                      rfl
                  refine did_use (rows2 := rows ++ rows') hR hk hn hb0 hat' (fun b hb hne => setRow_other w g b _ (fun e => hne (by simp [blk, e]))) (by simp) rfl rfl rfl ⟨fun r hr => (List.mem_append.1 hr).elim (hsz r) (hrsz r), .inr ⟨g, _, _, rfl, set_heap hheap, by rw [hlenapp]; exact hroom, hcm, ?_, ?_, ?_, fun h => by (cases h), fun _ => hI⟩⟩ (fun b hb => .inl hb)
                  · simp only [List.size_toArray, List.length_append, List.length_take, List.length_drop, Array.length_toList, List.length_map, List.length_range]
                    omega
                  · have hb' : ∀ b, m.I b → (w.setRow g (cur.toList.take (rows.length * sz') ++ (List.range (rows'.length * sz')).map f ++ cur.toList.drop (rows.length * sz' + ((List.range (rows'.length * sz')).map f).length)).toArray).heap[b]? = w.heap[b]? := fun b hb => setRow_other w g b _ (fun e => hI (e ▸ hb))
                    refine both_rows (g := fun q => cur.getD q undef) (f := f) hsz hrsz (fun i r j d hr hd => (hrep i r j d hr hd).ext (fun _ h => h) hb') (fun i r j d hr hd => (hfr i r j d hr hd).ext (fun _ h => h) hb') (fun q hq => ?_) (fun q hq => ?_)
                    · rw [hget q (by omega), if_pos hq]
                    · rw [hget _ (by omega), if_neg (by omega)]
                      congr 1
                      omega
                  · intro q hq
                    rw [hlenapp, Nat.add_mul] at hq
                    rw [hget q hq]
                    split
                    · rename_i h'; exact hone q h'
                    · exact (hf _ (by omega)).2
                · have hol : ((List.range (rows.length * sz')).map fun q => cur.getD q undef).length = rows.length * ti.size := by simp [hts]
                  have hbig : rows.length * sz' ≤ cur.size := by rw [hcs]; exact Nat.mul_le_mul_right _ hlc
                  have holds : ∀ j u, ((List.range (rows.length * sz')).map fun q => cur.getD q undef)[j]? = some u → w.cell? ((⟨g, 0, none⟩ : Addr).add j) = some u := fun j u hj => by
                    rw [List.getElem?_map, Option.map_eq_some_iff] at hj
                    obtain ⟨q, hq, rfl⟩ := hj
                    have hlt : j < rows.length * sz' := by
                      rcases Nat.lt_or_ge j (rows.length * sz') with h | h
                      · exact h
                      · rw [List.getElem?_eq_none (by simpa using h)] at hq; cases hq
                    rw [List.getElem?_range hlt] at hq
                    cases hq
                    rw [add_lit', cell_of_row w g _ cur e' (0, 0) hheap]
                    have : 0 + j < cur.size := by omega
                    simp only [Nat.zero_add] at this
                    simp [Array.getD, this]
                  have hrun := run_append_grow (P := P) w t o.type e' ti z hu hti hz ⟨g, 0, none⟩ rows.length c0 _ hol holds ad rows'.length cc _ hnl (news_of hf) (by omega) (by simp only [maxLen] at hb2; omega) (growslice_fits (by omega) (by rw [hby]; omega))
                  have hat' := append_exec (a := a) (w := w) (P := P) ho hc ha hat (by rw [hvs, hvx]; exact hrun)
                  have hge := grownCap_ge w (rows.length + rows'.length) c0 e'
                  have hcm' := grownCap_le_maxLen w (rows.length + rows'.length) c0 e' hb2
                  have hget : ∀ q, q < rows.length * sz' + rows'.length * sz' → (((List.range (rows.length * sz')).map fun q => cur.getD q undef).toArray ++ ((List.range (rows'.length * sz')).map f).toArray ++ Builtin.zeroCells z.cells (grownCap w (rows.length + rows'.length) c0 e' - (rows.length + rows'.length))).getD q undef = if q < rows.length * sz' then cur.getD q undef else f (q - rows.length * sz') := fun q hq => by
                    rw [Array.getD_eq_getD_getElem?, Array.getElem?_append_left (by simp; omega)]
                    by_cases hq' : q < rows.length * sz'
                    · rw [Array.getElem?_append_left (by simpa using hq'), if_pos hq']
                      simp [hq']
                    · rw [Array.getElem?_append_right (by simp; omega), if_neg hq', List.getElem?_toArray, List.getElem?_map]
                      simp only [List.size_toArray, List.length_map, List.length_range]
                      rw [List.getElem?_range (by omega)]
                      rfl
                  rw [← hlenapp] at hat'
                  refine did_use (rows2 := rows ++ rows') hR hk hn hb0 hat' (fun b hb _ => heap_alloc_old w.drew _ hb) (by simp) rfl rfl rfl ⟨fun r hr => (List.mem_append.1 hr).elim (hsz r) (hrsz r), .inr ⟨_, _, _, rfl, heap_alloc_new w.drew _, by rw [hlenapp]; exact hge, by rw [hlenapp]; exact hcm', ?_, ?_, ?_, fun h => by (cases h), fun _ hI => ?_⟩⟩ (fun b hb => by simp [blk] at hb; simp [hb])
                  · rw [hlenapp]
                    simp only [Array.size_append, List.size_toArray, size_zeroCells, hzs, List.length_map, List.length_range]
                    rw [← hsz0, hts, ← Nat.add_mul, ← Nat.add_mul]
                    congr 1
                    omega
                  · rw [hlenapp]
                    refine both_rows (g := fun q => cur.getD q undef) (f := f) hsz hrsz (fun i r j d hr hd => (hrep i r j d hr hd).ext (fun _ h => h) (fun b hb => heap_alloc_old w.drew _ (hR.mr.imm b hb))) (fun i r j d hr hd => (hfr i r j d hr hd).ext (fun _ h => h) (fun b hb => heap_alloc_old w.drew _ (hR.mr.imm b hb))) (fun q hq => ?_) (fun q hq => ?_)
                    · rw [hget q (by omega), if_pos hq]
                    · rw [hget _ (by omega), if_neg (by omega)]
                      congr 1
                      omega
                  · intro q hq
                    rw [hlenapp]
                    rw [hlenapp, Nat.add_mul] at hq
                    rw [hget q hq]
                    split
                    · rename_i h'; exact hone q h'
                    · exact (hf _ (by omega)).2
                  · have := hR.mr.imm _ hI
                    simp at this
          · cases h
        · -- onto a slice without room
          rename_i sz2 rows hev
          cases h
          obtain ⟨rfl, rfl, h0', rfl, hb1, hb2⟩ := hp
          rw [hev] at hs
          generalize hvs : a.eval s = vs at hs
          cases hs with
          | cl _ _ A0 hrd =>
          obtain ⟨A1, c1, hv1, hsz1, hcells1⟩ := src_cells hR.mr (x := .sl sz' rows) rfl (.sl _ _ _ hrd)
          injection hv1 with e1 e2 e3
          subst e1; subst e3
          have h0 : rows' ≠ [] := fun h => by rw [h] at h0'; simp at h0'
          obtain ⟨ad, f, rfl, hf, hfr⟩ := hcells.resolve_left h0
          have hnl : ((List.range (rows'.length * sz')).map f).length = rows'.length * ti.size := by simp [hts]
          have hlenapp : (rows ++ rows').length = rows.length + rows'.length := by simp
          rw [← hlenapp]
          by_cases hA : A0 = none
          · subst hA
            have hnil : rows = [] := by
              rcases hcells1 with h | ⟨ad0, f0, hA, _⟩
              · exact h
              · cases hA
            subst hnil
            simp only [List.length_nil, Nat.zero_add] at hb1 hb2
            have hrun := run_append_nil (P := P) w t o.type e ti z hu hti hz ad rows'.length cc _ hnl (news_of hf) h0' (by simp only [maxLen] at hb2; omega) (by rw [hby]; omega)
            have hge := grownCap_ge w rows'.length 0 e
            have hat' := append_exec (a := a) (w := w) (P := P) ho hc ha hat (by rw [hvs, hvx]; exact hrun)
            refine did_row (rows := [] ++ rows') (xs := ((List.range (rows'.length * sz')).map f).toArray ++ Builtin.zeroCells z.cells (grownCap w rows'.length 0 e - rows'.length)) hR hk (w0 := w.drew) rfl rfl rfl rfl hat' (by simpa using hrsz) (by simpa using hge) (grownCap_le_maxLen w _ 0 e hb2) ?_ ?_ ?_
            · simp only [Array.size_append, List.size_toArray, size_zeroCells, hzs, List.length_map, List.length_range]
              rw [← hsz0, hts, ← Nat.add_mul]
              congr 1
              omega
            · intro i hi
              simp only [List.nil_append] at hi
              rw [Array.getD_eq_getD_getElem?, Array.getElem?_append_left (by simpa using hi)]
              simp [hi, (hf i hi).2]
            · refine both_rows (g := fun _ => undef) (f := f) (by simp) hrsz (by simp) hfr (by simp) (fun q hq => ?_)
              simp only [List.length_nil, Nat.zero_mul, Nat.zero_add]
              rw [Array.getD_eq_getD_getElem?, Array.getElem?_append_left (by simpa using hq)]
              simp [hq]
          · obtain ⟨ad0, f0, rfl, hf0, hfr0⟩ : ∃ (ad0 : Addr) (f0 : Nat → Value), A0 = some ad0 ∧ (∀ q, q < rows.length * sz' → w.cell? (ad0.add q) = some (f0 q) ∧ (f0 q).oneCell' = true) ∧ ∀ (i : Nat) r (j : Nat) d, rows[i]? = some r → r[j]? = some d → RD w m.I d (f0 (i * sz' + j)) := by
              rcases hcells1 with h | h
              · subst h
                cases A0 with
                | none => exact absurd rfl hA
                | some ad0 => exact ⟨ad0, fun _ => undef, rfl, fun q hq => by simp at hq, fun i r j d hr => by simp at hr⟩
              · exact h
            have hol : ((List.range (rows.length * sz')).map f0).length = rows.length * ti.size := by simp [hts]
            have hrun := run_append_grow (P := P) w t o.type e ti z hu hti hz ad0 rows.length rows.length _ hol (news_of hf0) ad rows'.length cc _ hnl (news_of hf) (by omega) (by simp only [maxLen] at hb2; omega) (growslice_fits (by omega) (by rw [hby]; omega))
            have hat' := append_exec (a := a) (w := w) (P := P) ho hc ha hat (by rw [hvs, hvx]; exact hrun)
            have hge := grownCap_ge w (rows.length + rows'.length) rows.length e
            have hcm' := grownCap_le_maxLen w (rows.length + rows'.length) rows.length e hb2
            have hget : ∀ q, q < rows.length * sz' + rows'.length * sz' → (((List.range (rows.length * sz')).map f0).toArray ++ ((List.range (rows'.length * sz')).map f).toArray ++ Builtin.zeroCells z.cells (grownCap w (rows.length + rows'.length) rows.length e - (rows.length + rows'.length))).getD q undef = if q < rows.length * sz' then f0 q else f (q - rows.length * sz') := fun q hq => by
              rw [Array.getD_eq_getD_getElem?, Array.getElem?_append_left (by simp; omega)]
              by_cases hq' : q < rows.length * sz'
              · rw [Array.getElem?_append_left (by simpa using hq'), if_pos hq']
                simp [hq']
              · rw [Array.getElem?_append_right (by simp; omega), if_neg hq', List.getElem?_toArray, List.getElem?_map]
                simp only [List.size_toArray, List.length_map, List.length_range]
                rw [List.getElem?_range (by omega)]
                rfl
            rw [← hlenapp] at hat'
            refine did_row (rows := rows ++ rows') hR hk (w0 := w.drew) rfl rfl rfl rfl hat' (fun r hr => (List.mem_append.1 hr).elim (hsz1 r) (hrsz r)) (by rw [hlenapp]; exact hge) (by rw [hlenapp]; exact hcm') ?_ ?_ ?_
            · rw [hlenapp]
              simp only [Array.size_append, List.size_toArray, size_zeroCells, hzs, List.length_map, List.length_range]
              rw [← hsz0, hts, ← Nat.add_mul, ← Nat.add_mul]
              congr 1
              omega
            · intro q hq
              rw [hlenapp]
              rw [hlenapp, Nat.add_mul] at hq
              rw [hget q hq]
              split
              · rename_i h'; exact (hf0 q h').2
              · exact (hf _ (by omega)).2
            · rw [hlenapp]
              refine both_rows (g := f0) (f := f) hsz1 hrsz hfr0 hfr (fun q hq => ?_) (fun q hq => ?_)
              · rw [hget q (by omega), if_pos hq]
              · rw [hget _ (by omega), if_neg (by omega)]
                congr 1
                omega
        · cases h
      · cases h
    · cases h
  · cases h

end
end Go.Proofs.YtciegkpjenjaeaaDoor.Ab
