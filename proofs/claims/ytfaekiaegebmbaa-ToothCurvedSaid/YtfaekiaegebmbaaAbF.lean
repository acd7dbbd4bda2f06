/- The operations that change memory. -/
import Derived.Test.YtfaekiaegebmbaaAbE
import Derived.Laws.Tables
import Derived.Laws.OwnMore
import Derived.Laws.MakeOwn
namespace Go.Proofs.Ytfaekiaegebmbaa.Ab
open Go Go.RowKit
set_option linter.unusedSimpArgs false
set_option linter.unusedVariables false

/-! ### types -/
def zer (P : Program) (t : TypeId) : Option (List Value) := (P.info? t).bind fun i => i.zero.map fun z => z.cells.toList
/-- a zero cell as a datum: a nil slice is an empty one -/
def zdv (P : Program) (e : TypeId) : Value → DV
  | .slice none 0 0 => match elt P e with
    | some (_, sz) => .sl sz []
    | none => .v (.slice none 0 0)
  | x => .v x
def zds (P : Program) (e : TypeId) : Option (List DV) := (zer P e).map fun zs => zs.map (zdv P e)
theorem zdv_rd {P : Program} {e : TypeId} {w : World} {I : Nat → Prop} (x : Value) : RD w I (zdv P e x) x := by
  unfold zdv
  split
  · split
    · exact .sl0 _ _ _ (by simp [maxLen])
    · exact .v _
  · exact .v _
/-- of an element's type: its size and its bytes -/
def apf (P : Program) (e : TypeId) : Option (Nat × Nat) := match P.info? e with
  | some i => match i.zero with
    | some z => if z.cells.size = i.size ∧ 0 < i.size then some (i.size, i.bytes) else none
    | none => none
  | none => none
/-- the places of a struct's fields -/
def stf (P : Program) (t : TypeId) : Option (List (Nat × Nat)) := match P.underlying t with
  | some (.struct fields) => fields.toList.mapM fun f => (P.info? f.type).map fun i => (f.offset, i.size)
  | _ => none

theorem zer_some {P : Program} {t : TypeId} {zs : List Value} (h : zer P t = some zs) : ∃ i z, P.info? t = some i ∧ i.zero = some z ∧ z.cells.toList = zs := by
  obtain ⟨i, hi, h2⟩ := Option.bind_eq_some_iff.1 h
  obtain ⟨z, hz, h3⟩ := Option.map_eq_some_iff.1 h2
  exact ⟨i, z, hi, hz, h3⟩
theorem apf_some {P : Program} {e : TypeId} {sz by_ : Nat} (h : apf P e = some (sz, by_)) : ∃ i z, P.info? e = some i ∧ i.zero = some z ∧ z.cells.size = sz ∧ 0 < sz ∧ i.size = sz ∧ i.bytes = by_ := by
  unfold apf at h
  split at h
  · rename_i i hi
    split at h
    · rename_i z hz
      split at h
      · rename_i hc
        simp only [Option.some.injEq, Prod.mk.injEq] at h
        obtain ⟨rfl, rfl⟩ := h
        exact ⟨i, z, hi, hz, hc.1, hc.2, rfl, rfl⟩
      · cases h
    · cases h
  · cases h

/-! ### cells -/
def cellsOf : AV → Option (Prop × List AV)
  | .agg l => some (True, l)
  | .v x => some (x.oneCell' = true, [.v x])
  | .tup _ => none
  | .un => none
  | .sl sz rows => some (True, [.sl sz rows])
  | .ob n len => some (True, [.ob n len])
  | .ptr n off => some (True, [.ptr n off])
  | .elp sz rows i off => some (True, [.elp sz rows i off])
  | .obp n sz i off => some (True, [.obp n sz i off])
  | .fn g cap => some (True, [.fn g cap])
  | .yl n => some (True, [.yl n])
  | .mp n => some (True, [.mp n])
  | .bl _ _ => none
  | .bf _ _ => none

section
variable {m : Mem} {w : World} {ob : Nat → Option Obj}

theorem cellsOf_rep {a : AV} {x : Value} {p : Prop} {cs : List AV} (h : cellsOf a = some (p, cs)) (hp : p) (hx : Rep w m a x) :
    cs.length = x.cells.size ∧ (∀ y ∈ x.cells, y.oneCell' = true) ∧ ∀ i c, cs[i]? = some c → Rep w m c (x.cells.getD i undef) := by
  have single : ∀ (a : AV) (x : Value), x.oneCell' = true → Rep w m a x → [a].length = x.cells.size ∧ (∀ y ∈ x.cells, y.oneCell' = true) ∧ ∀ i c, [a][i]? = some c → Rep w m c (x.cells.getD i undef) := by
    intro a x h1 hr
    have hc : x.cells = #[x] := by cases x <;> simp_all [Value.oneCell', Value.cells]
    rw [hc]
    refine ⟨rfl, by simpa using h1, fun i c hi => ?_⟩
    cases i with
    | zero => simp at hi; subst hi; simpa using hr
    | succ i => simp at hi
  cases a with
  | agg l =>
    cases h
    cases hx with
    | agg _ xs hl h1 hx => exact ⟨hl, h1, hx⟩
  | v y => cases h; exact single _ _ (by cases hx; exact hp) hx
  | tup l => cases h
  | un => cases h
  | sl sz rows => cases h; exact single _ _ (by cases hx with | sl _ _ _ h => cases h <;> rfl) hx
  | ob => cases h; exact single _ _ (by cases hx; rfl) hx
  | ptr => cases h; exact single _ _ (by cases hx; rfl) hx
  | elp => cases h; exact single _ _ (by cases hx; rfl) hx
  | obp => cases h; exact single _ _ (by cases hx; rfl) hx
  | fn => cases h; exact single _ _ (by cases hx; rfl) hx
  | yl => cases h; exact single _ _ (by cases hx; rfl) hx
  | mp => cases h; exact single _ _ (by cases hx; rfl) hx
  | bl => cases h
  | bf => cases h

/-- as a datum: an object must be frozen -/
def toD (ob : Nat → Option Obj) : AV → Option DV
  | .v x => some (.v x)
  | .sl sz rows => some (.sl sz rows)
  | .ob n len => match ob n with
    | some (.row _ sz rows true) => some (.sl sz rows)
    | _ => none
  | _ => none
def toDs (ob : Nat → Option Obj) : List AV → Option (List DV)
  | [] => some []
  | a :: l => match toD ob a, toDs ob l with
    | some d, some r => some (d :: r)
    | _, _ => none

theorem row_RD {e sz : Nat} {rows : List (List DV)} {v : Value} (h : RowAt w m e sz rows true v) : RD w m.I (.sl sz rows) v := by
  obtain ⟨hsz, ⟨rfl, rfl⟩ | ⟨g, cap, cur, rfl, hh, hl, hc, hs, hr, h1, hf, _⟩⟩ := h
  · exact .sl0 _ _ _ (by simp [maxLen])
  · refine .sl _ _ g 0 cap (fun i j => cur.getD (i * sz + j) undef) hsz hl hc (hf rfl) (fun i j hi hj => ?_) (fun i j hi hj => h1 _ (row_bound hi hj)) hr
    rw [cell_of_row w g _ cur e (0, 0) hh]
    have : 0 + (i * sz + j) < cur.size := by
      have := row_bound (n := cap) (Nat.lt_of_lt_of_le hi hl) hj
      omega
    simp only [Nat.zero_add] at this
    simp [Array.getD, this]

theorem toD_rep (hR : MR m w ob) {a : AV} {d : DV} {x : Value} (h : toD ob a = some d) (hx : Rep w m a x) : RD w m.I d x := by
  unfold toD at h
  split at h
  · cases h; cases hx; exact .v _
  · cases h; cases hx with | sl _ _ _ h => exact h
  · split at h
    · rename_i hn
      cases h
      cases hx with
      | ob _ _ A c hb =>
      obtain ⟨v, hv, hat⟩ := hR.obs _ _ hn
      rw [hb] at hv
      cases hv
      exact row_RD hat
    · cases h
  · cases h

theorem toDs_get : ∀ {l : List AV} {ds : List DV}, toDs ob l = some ds → ds.length = l.length ∧ ∀ (i : Nat) d, ds[i]? = some d → ∃ a, l[i]? = some a ∧ toD ob a = some d
  | [], ds, h => by cases h; simp
  | a :: l, ds, h => by
    unfold toDs at h
    split at h
    · rename_i d r hd hr
      cases h
      obtain ⟨h1, h2⟩ := toDs_get hr
      refine ⟨by simp [h1], fun i d' hi => ?_⟩
      cases i with
      | zero => simp at hi; subst hi; exact ⟨a, rfl, hd⟩
      | succ i => simpa using h2 i d' (by simpa using hi)
    · cases h

/-! ### parts put into a value's cells -/
def aFill (place : Nat → Option (Nat × Nat)) (cells : List AV) : List (Nat × AV) → Option (Prop × List AV)
  | [] => some (True, cells)
  | (i, a) :: rest => match place i, cellsOf a with
    | some (off, size), some (p, cs) => match aFill place (put cells off cs) rest with
      | some (q, r) => some ((p ∧ cs.length = size ∧ off + size ≤ cells.length) ∧ q, r)
      | none => none
    | _, _ => none

theorem foldl_set (off : Nat) : ∀ (l : List Value) (s : Nat) (cs : Array Value) (i : Nat), ((l.zipIdx s).foldl (fun cs (x : Value × Nat) => cs.setIfInBounds (off + x.2) x.1) cs)[i]? =
    if off + s ≤ i ∧ i < off + s + l.length ∧ i < cs.size then l[i - (off + s)]? else cs[i]?
  | [], s, cs, i => by
    simp only [List.zipIdx_nil, List.foldl_nil, List.length_nil, Nat.add_zero]
    rw [if_neg (by omega)]
  | x :: l, s, cs, i => by
    rw [List.zipIdx_cons, List.foldl_cons, foldl_set off l (s + 1) _ i]
    simp only [Array.size_setIfInBounds, List.length_cons]
    by_cases h : off + s ≤ i ∧ i < off + s + (l.length + 1) ∧ i < cs.size
    · rw [if_pos h]
      by_cases he : i = off + s
      · subst he
        rw [if_neg (by omega), Array.getElem?_setIfInBounds_self_of_lt h.2.2]
        simp
      · rw [if_pos (by omega)]
        have : i - (off + s) = (i - (off + (s + 1))) + 1 := by omega
        rw [this, List.getElem?_cons_succ]
    · rw [if_neg h, if_neg (by omega), Array.getElem?_setIfInBounds]
      split
      · rename_i he
        split
        · omega
        · rw [Array.getElem?_eq_none (by omega)]
      · rfl

theorem foldl_set_size (off : Nat) : ∀ (l : List (Value × Nat)) (cs : Array Value), (l.foldl (fun cs (x : Value × Nat) => cs.setIfInBounds (off + x.2) x.1) cs).size = cs.size
  | [], cs => rfl
  | x :: l, cs => by rw [List.foldl_cons, foldl_set_size off l]; simp

theorem getD_get? {xs : Array Value} {i : Nat} {v : Value} (h : xs[i]? = some v) : xs.getD i undef = v := by
  simp [Array.getD_eq_getD_getElem?, h]

theorem aFill_run {place : Nat → Option (Nat × Nat)} : ∀ {parts : List (Nat × AV)} {cells r : List AV} {p : Prop} {cur : Array Value} {vs : List (Nat × Value)}, aFill place cells parts = some (p, r) → p →
    cells.length = cur.size → (∀ y ∈ cur, y.oneCell' = true) → (∀ i c, cells[i]? = some c → Rep w m c (cur.getD i undef)) →
    vs.length = parts.length → (∀ (i : Nat) (q : Nat × AV), parts[i]? = some q → ∃ x, vs[i]? = some (q.1, x) ∧ Rep w m q.2 x) →
    ∃ cur', Instr.fill place cur vs = some cur' ∧ r.length = cur'.size ∧ cells.length = r.length ∧ (∀ y ∈ cur', y.oneCell' = true) ∧ (∀ i c, r[i]? = some c → Rep w m c (cur'.getD i undef))
  | [], cells, r, p, cur, vs, h, hp, hl, h1, hr, hlen, hv => by
    cases h
    have : vs = [] := List.eq_nil_of_length_eq_zero (by simpa using hlen)
    subst this
    exact ⟨cur, rfl, hl, rfl, h1, hr⟩
  | (i, a) :: rest, cells, r, p, cur, vs, h, hp, hl, h1, hr, hlen, hv => by
    unfold aFill at h
    split at h
    · rename_i off size q cs hpl hcs
      split at h
      · rename_i q' r' hrest
        cases h
        obtain ⟨⟨hq, hsz, hfit⟩, hq'⟩ := hp
        cases vs with
        | nil => simp at hlen
        | cons v vs =>
          obtain ⟨x, hx, hrep⟩ := hv 0 (i, a) rfl
          simp at hx
          subst hx
          obtain ⟨hcl, hc1, hcr⟩ := cellsOf_rep hcs hq hrep
          have hxs : x.cells.size = size := by omega
          have hno : ¬ (x.cells.size ≠ size ∨ off + x.cells.size > cur.size) := by omega
          have hfold : ∀ i, (x.cells.zipIdx.foldl (fun cs (c, j) => cs.setIfInBounds (off + j) c) cur)[i]? = if off ≤ i ∧ i < off + x.cells.size ∧ i < cur.size then x.cells[i - off]? else cur[i]? := by
            intro i
            have := foldl_set off x.cells.toList 0 cur i
            simp only [Nat.add_zero, Array.length_toList, Array.getElem?_toList] at this
            rw [← this, ← Array.foldl_toList, Array.toList_zipIdx]
          have hfs : (x.cells.zipIdx.foldl (fun cs (c, j) => cs.setIfInBounds (off + j) c) cur).size = cur.size := by
            rw [← Array.foldl_toList]; exact foldl_set_size off _ cur
          have hput : (put cells off cs).length = cells.length := put_length _ _ _
          obtain ⟨cur', hf, g1, g2, g3, g4⟩ := aFill_run (cur := x.cells.zipIdx.foldl (fun cs (c, j) => cs.setIfInBounds (off + j) c) cur) (vs := vs) hrest hq' (by rw [hput, hfs, hl])
            (fun y hy => by
              obtain ⟨i, hi⟩ := Array.mem_iff_getElem?.1 hy
              rw [hfold] at hi
              split at hi
              · exact hc1 y (Array.mem_of_getElem? hi)
              · exact h1 y (Array.mem_of_getElem? hi))
            (fun i c hi => by
              rw [put_get _ _ _ (by omega)] at hi
              have hil : i < cells.length := by
                rcases Nat.lt_or_ge i cells.length with h | h
                · exact h
                · rw [if_neg (by omega), if_neg (by omega), List.getElem?_eq_none h] at hi; cases hi
              by_cases hin : off ≤ i ∧ i < off + x.cells.size
              · rw [if_neg (by omega), if_pos (by omega)] at hi
                have hh := hcr _ _ hi
                rw [Array.getD_eq_getD_getElem?, hfold, if_pos (by omega), ← Array.getD_eq_getD_getElem?]
                exact hh
              · have hi' : cells[i]? = some c := by
                  by_cases h0 : i < off
                  · rwa [if_pos h0] at hi
                  · rwa [if_neg h0, if_neg (by omega)] at hi
                have hh := hr _ _ hi'
                rw [Array.getD_eq_getD_getElem?, hfold, if_neg (by omega), ← Array.getD_eq_getD_getElem?]
                exact hh)
            (by simpa using hlen) (fun i q hi => by simpa using hv (i + 1) q (by simpa using hi))
          exact ⟨cur', by simp only [Instr.fill, hpl]; rw [if_neg (by simp [hxs]; omega)]; exact hf, g1, by rw [← hput]; exact g2, g3, g4⟩
      · cases h
    · cases h

end
end Go.Proofs.Ytfaekiaegebmbaa.Ab
