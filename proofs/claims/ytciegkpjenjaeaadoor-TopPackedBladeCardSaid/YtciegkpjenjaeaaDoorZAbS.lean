/- What the arguments of a call hold, as abstract values: read off the row's own reading. -/
import Derived.Test.YtciegkpjenjaeaaDoorZAbQ
import Derived.Deep.Slices
import Derived.ChangeArms
import Derived.Carry
import Derived.OpenShut
namespace Go.Proofs.YtciegkpjenjaeaaDoor.Ab
open Go Go.RowKit
set_option linter.unusedSimpArgs false
set_option linter.unusedVariables false

/-- The cells of a type. -/
inductive Cl where
  | int (k : IntKind)
  | bool
  | str
  | slice (row : List Cl)

mutual
def FitC : Cl → DV → Prop
  | .int k, .v (.int k' n) => k' = k ∧ (Lit.int k n).wf = true
  | .bool, .v (.bool _) => True
  | .str, .v (.string s) => s.size ≤ maxLen
  | .slice row, .sl sz rows => sz = row.length ∧ rows.length ≤ maxLen ∧ ∀ r ∈ rows, FitL row r
  | _, _ => False
def FitL : List Cl → List DV → Prop
  | [], [] => True
  | c :: cs, d :: ds => FitC c d ∧ FitL cs ds
  | _, _ => False
end

def layP (cells : TypeId → Option (List Cl)) : List (Nat × TypeId) → Nat → Option (List Cl)
  | [], _ => some []
  | (off, t) :: l, o => match cells t with
    | some row => if off = o then (layP cells l (o + row.length)).map (row ++ ·) else none
    | none => none
def sized (n : Nat) (x : Option (List Cl)) : Option (List Cl) := match x with
  | some row => if row.length = n then some row else none
  | none => none
/-- The cells of a type of the program. -/
def cellsP (P : Program) : Nat → TypeId → Option (List Cl)
  | 0, _ => none
  | n + 1, t => sized (P.cellsOf t) (match P.underlying t with
    | some (.int k) => some [.int k]
    | some .bool => some [.bool]
    | some .string => some [.str]
    | some (.slice e) => match cellsP P n e with
      | some row => if row.length = 0 then none else some [.slice row]
      | none => none
    | some (.struct fs) => layP (cellsP P n) (fs.toList.map fun f => (f.offset, f.type)) 0
    | some (.array m e) => layP (cellsP P n) ((List.range m).map fun i => (i * P.cellsOf e, e)) 0
    | _ => none)

/-- Cells of memory hold this. -/
inductive RL (w : World) (I : Nat → Prop) : List Cl → List DV → List Value → Prop
  | nil : RL w I [] [] []
  | cons {c : Cl} {d : DV} {v : Value} {cs : List Cl} {ds : List DV} {vs : List Value} (hf : FitC c d) (hr : RD w I d v) (h1 : v.oneCell' = true) (h : RL w I cs ds vs) : RL w I (c :: cs) (d :: ds) (v :: vs)

section
variable {P : Program} {w : World} {I : Nat → Prop}

theorem RL.append {a a' : List Cl} {b b' : List DV} {c c' : List Value} (h : RL w I a b c) (h' : RL w I a' b' c') : RL w I (a ++ a') (b ++ b') (c ++ c') := by
  induction h with
  | nil => exact h'
  | cons hf hr h1 _ ih => exact .cons hf hr h1 ih
theorem RL.len {a : List Cl} {b : List DV} {c : List Value} (h : RL w I a b c) : b.length = a.length ∧ c.length = a.length := by
  induction h with
  | nil => exact ⟨rfl, rfl⟩
  | cons _ _ _ _ ih => simp [ih]
theorem RL.fit {a : List Cl} {b : List DV} {c : List Value} (h : RL w I a b c) : FitL a b := by
  induction h with
  | nil => trivial
  | cons hf _ _ _ ih => exact ⟨hf, ih⟩
theorem RL.get {a : List Cl} {b : List DV} {c : List Value} (h : RL w I a b c) : ∀ (i : Nat) d, b[i]? = some d → ∃ v, c[i]? = some v ∧ RD w I d v ∧ v.oneCell' = true := by
  induction h with
  | nil => intro i d hd; simp at hd
  | cons hf hr h1 _ ih =>
    intro i d hd
    cases i with
    | zero => simp at hd; subst hd; exact ⟨_, rfl, hr, h1⟩
    | succ i => simpa using ih i d (by simpa using hd)

theorem sized_some {n : Nat} {x : Option (List Cl)} {row : List Cl} (h : sized n x = some row) : x = some row ∧ row.length = n := by
  unfold sized at h
  split at h
  · split at h
    · rename_i h1
      cases h
      exact ⟨rfl, h1⟩
    · cases h
  · cases h

theorem parts_open {cells : TypeId → Option (List Cl)} {size : TypeId → Nat} {cs : List Value} (hsz : ∀ t row, cells t = some row → row.length = size t) : ∀ (l : List (Nat × TypeId)) (o : Nat) (row : List Cl), layP cells l o = some row →
    (∀ p ∈ l, ∀ r, cells p.2 = some r → ∃ ds, RL w I r ds ((cs.drop p.1).take (size p.2))) → ∃ ds, RL w I row ds ((cs.drop o).take row.length)
  | [], o, row, h, _ => by
    simp only [layP, Option.some.injEq] at h
    subst h
    exact ⟨[], by simpa using RL.nil⟩
  | (off, t) :: l, o, row, h, hp => by
    simp only [layP] at h
    split at h
    · rename_i r hr
      split at h
      · rename_i ho
        subst ho
        obtain ⟨row', h1, rfl⟩ := Option.map_eq_some_iff.1 h
        obtain ⟨ds, hds⟩ := hp (off, t) (by simp) r hr
        obtain ⟨ds', hds'⟩ := parts_open hsz l _ _ h1 (fun p hpl => hp p (by simp [hpl]))
        rw [← hsz t r hr] at hds
        refine ⟨ds ++ ds', ?_⟩
        rw [List.length_append, List.take_add, List.drop_drop]
        exact hds.append hds'
      · cases h
    · cases h

/-- What a reading says: old memory cannot turn. -/
theorem open_cells {H : Type} {enc : TypeId × Value → H} {sp : Nat → Bool} {hd : Bool} : ∀ (n : Nat) (t : TypeId) (row : List Cl), cellsP P n t = some row → ∀ (fuel : Nat) (cs : List Value) (x : DataW H × List MemPlace), DataW.trod enc P w 0 sp hd fuel t cs = some x →
    ∃ ds, RL w (fun b => b < w.heap.size) row ds cs := by
  intro n
  induction n with
  | zero => intro t row h; cases h
  | succ n ih =>
    intro t row h fuel cs x hx
    simp only [cellsP] at h
    obtain ⟨h, hsz⟩ := sized_some h
    have hlen : ∀ t row, cellsP P n t = some row → row.length = P.cellsOf t := fun t row h => by
      cases n with
      | zero => cases h
      | succ n => exact (sized_some h).2
    split at h
    · rename_i k ht
      cases h
      obtain ⟨m, rfl, _, hw⟩ := DataW.trod_int ht hx
      exact ⟨[.v (.int k m)], .cons ⟨rfl, hw⟩ (.v _) rfl .nil⟩
    · rename_i ht
      cases h
      obtain ⟨b, rfl, _⟩ := DataW.trod_bool ht hx
      exact ⟨[.v (.bool b)], .cons trivial (.v _) rfl .nil⟩
    · rename_i ht
      cases h
      obtain ⟨s, rfl, _, hs⟩ := DataW.trod_string ht hx
      exact ⟨[.v (.string s)], .cons hs (.v _) rfl .nil⟩
    · rename_i e ht
      split at h
      · rename_i r hr
        split at h
        · cases h
        · rename_i hr0
          cases h
          rcases Go.Deep.open_slice ht hx with ⟨rfl, _⟩ | ⟨a, len, cap, m, fu, D, Pl, rfl, _, hl, hm, hmm, _, hel⟩
          · exact ⟨[.sl r.length []], .cons ⟨rfl, Nat.zero_le _, fun r hr => by cases hr⟩ (.sl0 _ _ _ (Nat.zero_le _)) rfl .nil⟩
          · have hle : len ≤ m := by rw [hmm]; split <;> omega
            obtain ⟨f, hf⟩ := Go.Deep.choose_lt (n := len) (α := List DV) (p := fun i ds => ∃ cs', w.cells? 0 (a.add (i * P.cellsOf e)) (P.cellsOf e) = some cs' ∧ RL w (fun b => b < w.heap.size) r ds cs') (fun i hi => by
              obtain ⟨cs', h1, h2⟩ := hel i (by omega)
              obtain ⟨ds, hds⟩ := ih e r hr _ _ _ h2
              exact ⟨ds, cs', h1, hds⟩)
            have hszr : r.length = P.cellsOf e := hlen e r hr
            refine ⟨[.sl r.length ((List.range len).map f)], .cons ⟨rfl, by simp; omega, fun rw hrw => ?_⟩ ?_ rfl .nil⟩
            · obtain ⟨i, hi, rfl⟩ := List.mem_map.1 hrw
              obtain ⟨cs', _, h2⟩ := hf i (List.mem_range.1 hi)
              exact h2.fit
            · by_cases h0 : len = 0
              · subst h0
                exact .sl0 _ _ _ hm
              · have hcell : ∀ i j, i < len → j < r.length → ∃ v, w.cell? ((a.add (i * P.cellsOf e)).add j) = some v ∧ v.oneCell' = true ∧ ∀ d, (f i)[j]? = some d → RD w (fun b => b < w.heap.size) d v := fun i j hi hj => by
                  obtain ⟨cs', h1, h2⟩ := hf i hi
                  obtain ⟨_, h3, h4⟩ := World.cells?_some h1
                  have hfl : (f i).length = r.length := h2.len.1
                  have hd : (f i)[j]? = some ((f i)[j]'(by omega)) := List.getElem?_eq_getElem (by omega)
                  obtain ⟨v, hv, hrd, h1c⟩ := h2.get j _ hd
                  refine ⟨v, by rw [h4 j (by omega), hv], h1c, fun d hd' => ?_⟩
                  rw [hd] at hd'
                  cases hd'
                  exact hrd
                have hspot : a.spot = none ∧ a.block < w.heap.size := by
                  obtain ⟨v, hv, _⟩ := hcell 0 0 (by omega) (by omega)
                  have e0 : (a.add (0 * P.cellsOf e)).add 0 = a := by simp [Addr.add]
                  rw [e0] at hv
                  unfold World.cell? at hv
                  split at hv
                  · rename_i c1 _ _ hc1
                    split at hv
                    · cases hv
                    · rename_i hs
                      exact ⟨by simpa using hs, lt_of_get hc1⟩
                  · cases hv
                obtain ⟨b, o, s⟩ := a
                obtain ⟨rfl, hb⟩ := hspot
                have hadd : ∀ k j : Nat, ((⟨b, o, none⟩ : Addr).add k).add j = ⟨b, o + (k + j), none⟩ := fun k j => by
                  rw [Go.Deep.add_add]
                  unfold Addr.add
                  split
                  · rename_i h; rw [h]; rfl
                  · rfl
                let cell : Nat → Nat → Value := fun i j => (w.cell? ⟨b, o + (i * r.length + j), none⟩).getD undef
                have hcl : ∀ i j, i < len → j < r.length → w.cell? ⟨b, o + (i * r.length + j), none⟩ = some (cell i j) ∧ (cell i j).oneCell' = true ∧ ∀ d, (f i)[j]? = some d → RD w (fun b => b < w.heap.size) d (cell i j) := fun i j hi hj => by
                  obtain ⟨v, h1, h2, h3⟩ := hcell i j hi hj
                  rw [hadd, ← hszr] at h1
                  have : cell i j = v := by show (w.cell? _).getD undef = v; rw [h1]; rfl
                  rw [this]
                  exact ⟨h1, h2, h3⟩
                have hlenr : ((List.range len).map f).length = len := by simp
                have hcap := hl
                have := RD.sl (w := w) (I := fun b => b < w.heap.size) r.length ((List.range len).map f) b o cap cell (fun rw hrw => by
                    obtain ⟨i, hi, rfl⟩ := List.mem_map.1 hrw
                    obtain ⟨cs', _, h2⟩ := hf i (List.mem_range.1 hi)
                    exact h2.len.1) (by rw [hlenr]; exact hl) hm hb (fun i j hi hj => (hcl i j (by rw [hlenr] at hi; exact hi) hj).1) (fun i j hi hj => (hcl i j (by rw [hlenr] at hi; exact hi) hj).2.1) (fun i rw j d h1 h2 => by
                    have hi : i < len := by
                      rcases Nat.lt_or_ge i len with h | h
                      · exact h
                      · rw [List.getElem?_eq_none (by rw [hlenr]; exact h)] at h1; cases h1
                    have hrw : rw = f i := by
                      rw [List.getElem?_map, List.getElem?_range hi] at h1
                      exact (Option.some.inj h1).symm
                    subst hrw
                    have hj : j < r.length := by
                      obtain ⟨cs', _, h5⟩ := hf i hi
                      rcases Nat.lt_or_ge j r.length with h | h
                      · exact h
                      · rw [List.getElem?_eq_none (by rw [h5.len.1]; exact h)] at h2; cases h2
                    exact (hcl i j hi hj).2.2 d h2)
                rw [hlenr] at this
                exact this
      · cases h
    · rename_i fs ht
      obtain ⟨xs, fu, _, _, hl, hxl, hf⟩ := DataW.trod_struct ht hx
      obtain ⟨ds, hds⟩ := parts_open (w := w) (I := fun b => b < w.heap.size) (size := P.cellsOf) (cs := cs) hlen _ 0 row h (fun p hp r hr => by
        obtain ⟨f, hfm, rfl⟩ := List.mem_map.1 hp
        obtain ⟨i, hi, rfl⟩ := List.mem_iff_getElem.1 hfm
        have hi' : i < fs.size := by simpa using hi
        have h1 := hf i fs[i] (Array.getElem?_eq_getElem hi')
        rw [List.getElem?_eq_getElem (by omega)] at h1
        exact ih _ r hr _ _ _ h1)
      refine ⟨ds, ?_⟩
      rw [hsz, ← hl] at hds
      simpa using hds
    · rename_i m e ht
      cases fuel with
      | zero => simp [DataW.trod] at hx
      | succ fu =>
        unfold DataW.trod at hx
        rw [ht] at hx
        simp only at hx
        split at hx
        · rename_i hl
          obtain ⟨xs, h1, _⟩ := Option.map_eq_some_iff.1 hx
          obtain ⟨ds, hds⟩ := parts_open (w := w) (I := fun b => b < w.heap.size) (size := P.cellsOf) (cs := cs) hlen _ 0 row h (fun p hp r hr => by
            obtain ⟨i, hi, rfl⟩ := List.mem_map.1 hp
            have hi' : i < m := List.mem_range.1 hi
            have h2 := mapM_some_get h1 i i (by simp [hi'])
            have h3 := mapM_some_length h1
            rw [List.getElem?_eq_getElem (by simp at h3; omega)] at h2
            exact ih _ r hr _ _ _ h2)
          refine ⟨ds, ?_⟩
          rw [hsz, ← hl] at hds
          simpa using hds
        · cases hx
    · cases h

/-- The memory at a law's call: what is there cannot turn; nothing is the call's own. -/
def mem0 (w : World) : Mem := ⟨fun b => b < w.heap.size, fun _ => none, fun _ _ => False⟩
theorem mr0 (w : World) (ht : TabOk (mem0 w).I w) : MR (mem0 w) w (obl []) := ⟨⟨fun b h => h, ht⟩, fun n o h => by simp [obl] at h, fun n n' o o' x x' b h => by simp [obl] at h⟩

/-- An argument that is a struct or an array. -/
theorem arg_agg {H : Type} {enc : TypeId × Value → H} {t : TypeId} {v : Value} {d : DataW H} {ps : List MemPlace} {row : List Cl} {n b0 : Nat} {r : Reach} {W : World} (hc : cellsP P n t = some row) (hag : (match P.underlying t with
    | some (.struct _) => true
    | some (.array _ _) => true
    | _ => false) = true) (hv : Value.okWide P W r b0 t v) (h : DataW.Trod enc P w 0 (fun _ => true) true t v d ps) : ∃ ds, FitL row ds ∧ Rep w (mem0 w) (.agg (ds.map ofD)) v := by
  obtain ⟨fuel, hf⟩ := h
  obtain ⟨ds, hds⟩ := open_cells n t row hc _ _ _ hf
  have hvv : ∃ cs, v = .agg cs := by
    unfold Value.okWide at hv
    split at hv
    · obtain ⟨cs, h1, _⟩ := hv; exact ⟨cs, h1⟩
    · obtain ⟨cs, h1, _⟩ := hv; exact ⟨cs, h1⟩
    · rename_i h1 h2
      split at hag
      · rename_i fs hh; exact absurd hh (h1 fs)
      · rename_i a b hh; exact absurd hh (h2 a b)
      · cases hag
  obtain ⟨xs, rfl⟩ := hvv
  have hcs : (Value.agg xs).cells.toList = xs.toList := rfl
  rw [hcs] at hds
  refine ⟨ds, hds.fit, .agg _ _ (by have := hds.len; simp at this ⊢; omega) (fun x hx => ?_) (fun i a ha => ?_)⟩
  · obtain ⟨i, hi, rfl⟩ := Array.mem_iff_getElem.1 hx
    have hl := hds.len
    have hd : ds[i]? = some (ds[i]'(by simp at hl; omega)) := List.getElem?_eq_getElem _
    obtain ⟨v, hv, _, h1⟩ := hds.get i _ hd
    have : xs[i] = v := by simpa [hi] using hv
    rw [this]
    exact h1
  · obtain ⟨d, hd, rfl⟩ := get_map ha
    obtain ⟨v, hv, hr, _⟩ := hds.get i d hd
    have : xs.getD i undef = v := by
      rw [Array.getD_eq_getD_getElem?]
      have : xs[i]? = some v := by simpa using hv
      rw [this]
      rfl
    rw [this]
    exact (RD.rep (m := mem0 w) hr)
theorem Ext.below {m : Mem} {w w' : World} {ob ob' : Nat → Option Obj} {m' : Mem} (h : Ext w m ob w' m' ob') (hI : ∀ b, b < w.heap.size → m.I b) : Below w.heap.size w w' :=
  ⟨h.os, h.tape, h.output, h.size, fun k hk => h.keepI k (hI k hk)⟩

/-- A law's contract, as the row wants it. -/
theorem law_calls {f : FuncId} {args : List AV} {b : Bool} (hs : SpecF P f args (.v (.bool b)) []) {w : World} {vs : Array Value} (hl : vs.size = args.length) (hr : ∀ i a, args[i]? = some a → Rep w (mem0 w) a (vs.getD i undef)) (ht : TabOk (mem0 w).I w := by intro p hp; cases hp) :
    Calls P f vs w fun e w' => e = .returned (.bool b) ∧ Below w.heap.size w w' := by
  obtain ⟨_, _, _, h⟩ := hs
  refine (h (mem0 w) w vs (mr0 w ht) (fun _ _ => rfl) hl hr).mono fun e w' he => ?_
  obtain ⟨v, m', rfl, hrv, _, hE, _⟩ := he
  have : v = .bool b := rep_v hrv
  rw [this]
  exact ⟨rfl, hE.below fun _ h => h⟩
end
theorem fit_u8 {n : Int} (h : (Lit.int .u8 n).wf = true) : 0 ≤ n ∧ n < 256 := by
  simp [Lit.wf, IntKind.min, IntKind.max, IntKind.signed, IntKind.bits] at h
  omega
theorem fit_int {k : IntKind} {l : List Cl} {ds : List DV} (h : FitL (.int k :: l) ds) : ∃ n ds', ds = .v (.int k n) :: ds' ∧ (Lit.int k n).wf = true ∧ FitL l ds' := by
  cases ds with
  | nil => exact h.elim
  | cons d ds =>
    obtain ⟨h1, h2⟩ := h
    cases d with
    | sl => exact h1.elim
    | v x =>
      cases x with
      | int k' n => obtain ⟨rfl, hw⟩ := h1; exact ⟨n, ds, rfl, hw, h2⟩
      | _ => exact h1.elim
theorem fit_nil {ds : List DV} (h : FitL [] ds) : ds = [] := by
  cases ds with
  | nil => rfl
  | cons => exact h.elim
end Go.Proofs.YtciegkpjenjaeaaDoor.Ab
