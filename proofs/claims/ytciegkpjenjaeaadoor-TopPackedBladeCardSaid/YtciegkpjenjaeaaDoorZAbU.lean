/- Contracts whose new objects are frozen at the call's end: the result is data. -/
import Derived.Test.YtciegkpjenjaeaaDoorZAbQ
namespace Go.Proofs.YtciegkpjenjaeaaDoor.Ab
open Go Go.RowKit
set_option linter.unusedSimpArgs false
set_option linter.unusedVariables false
def frz0 (objs : List Obj) : AV → AV
  | .ob n _ => match objs[n]? with
    | some (.row _ sz rows _) => .sl sz rows
    | _ => .un
  | .v x => .v x
  | .sl sz rows => .sl sz rows
  | _ => .un
def frz1 (objs : List Obj) : AV → AV
  | .agg l => .agg (l.map (frz0 objs))
  | a => frz0 objs a
/-- A result as data: all new rows frozen. -/
def frz (objs : List Obj) : AV → AV
  | .tup l => .tup (l.map (frz1 objs))
  | a => frz1 objs a
section
variable {w : World} {m : Mem} {objs : List Obj}
theorem fzs_obl (ob : Nat → Option Obj) : ∀ (l : List Nat) (n e sz : Nat) (rows : List (List DV)) (fz : Bool), ob n = some (.row e sz rows fz) → ∃ fz', fzs ob l n = some (.row e sz rows fz') ∧ (n ∈ l ∨ fz = true → fz' = true)
  | [], n, e, sz, rows, fz, h => ⟨fz, h, fun h => by simpa using h⟩
  | i :: l, n, e, sz, rows, fz, h => by
    have h1 : ∃ fz1', fz1 ob i n = some (.row e sz rows fz1') ∧ (n = i ∨ fz = true → fz1' = true) := by
      by_cases hni : n = i
      · subst hni
        cases fz with
        | true => exact ⟨true, by simp only [fz1, h], fun _ => rfl⟩
        | false => exact ⟨true, by simp only [fz1, h, upd]; rfl, fun _ => rfl⟩
      · refine ⟨fz, ?_, fun h => by rcases h with h | h; exact absurd h hni; exact h⟩
        have : fz1 ob i n = ob n := by
          unfold fz1
          cases ob i with
          | none => rfl
          | some o => cases o with
            | row e2 sz2 rows2 fz2 => cases fz2 <;> simp [upd, hni]
            | _ => rfl
        rw [this, h]
    obtain ⟨f1, g1, g2⟩ := h1
    obtain ⟨f2, g3, g4⟩ := fzs_obl (fz1 ob i) l n e sz rows f1 g1
    refine ⟨f2, g3, fun hh => g4 ?_⟩
    rcases hh with hh | hh
    · rcases List.mem_cons.1 hh with hh | hh
      · exact .inr (g2 (.inl hh))
      · exact .inl hh
    · exact .inr (g2 (.inr hh))
theorem frz0_rep (hR : MR m w (fzs (obl objs) (List.range objs.length))) {a : AV} {x : Value} (h : Rep w m a x) : Rep w ⟨m.I, fun _ => none, fun _ _ => False⟩ (frz0 objs a) x := by
  unfold frz0
  split
  · rename_i n len
    split
    · rename_i e sz rows fz hn
      obtain ⟨fz', g1, g2⟩ := fzs_obl (obl objs) (List.range objs.length) n e sz rows fz hn
      have hlt : n < objs.length := by
        rcases Nat.lt_or_ge n objs.length with h | h
        · exact h
        · rw [List.getElem?_eq_none h] at hn; cases hn
      obtain rfl := g2 (.inl (List.mem_range.2 hlt))
      obtain ⟨v, hv, hat⟩ := hR.obs _ _ g1
      cases h with
      | ob _ _ A c hb =>
      rw [hb] at hv
      cases hv
      exact .sl _ _ _ (row_RD hat)
    · exact .un _
  · cases h; exact .v _
  · cases h with
    | sl _ _ _ h => exact .sl _ _ _ h
  · exact .un _
theorem frz1_rep (hR : MR m w (fzs (obl objs) (List.range objs.length))) {a : AV} {x : Value} (h : Rep w m a x) : Rep w ⟨m.I, fun _ => none, fun _ _ => False⟩ (frz1 objs a) x := by
  unfold frz1
  split
  · cases h with
    | agg l xs hl h1 h =>
    refine .agg _ _ (by simpa using hl) h1 fun i a ha => ?_
    rw [List.getElem?_map, Option.map_eq_some_iff] at ha
    obtain ⟨a0, ha0, rfl⟩ := ha
    exact frz0_rep hR (h i a0 ha0)
  · exact frz0_rep hR h
theorem frz_rep (hR : MR m w (fzs (obl objs) (List.range objs.length))) {a : AV} {x : Value} (h : Rep w m a x) : Rep w ⟨m.I, fun _ => none, fun _ _ => False⟩ (frz objs a) x := by
  unfold frz
  split
  · cases h with
    | tup l xs hl h =>
    refine .tup _ _ (by simpa using hl) fun i a ha => ?_
    rw [List.getElem?_map, Option.map_eq_some_iff] at ha
    obtain ⟨a0, ha0, rfl⟩ := ha
    exact frz1_rep hR (h i a0 ha0)
  · exact frz1_rep hR h
end
theorem SpecG.frz {P : Program} {f : FuncId} {args : List AV} {r : AV} {objs : List Obj} (h : SpecF P f args r objs) : SpecF P f args (Ab.frz objs r) [] := by
  obtain ⟨h1, h2, h3, h4⟩ := h
  refine ⟨h1, Nat.le_refl _, Nat.zero_le _, fun m w vs hR hfr hsz hrep => (h4 m w vs hR hfr hsz hrep).mono fun e w' hq => ?_⟩
  obtain ⟨v, m', he, hv, hm, hE, hf⟩ := hq
  obtain ⟨m2, k1, k2, k3, k4⟩ := fzs_step hm (List.range objs.length)
  have kE := hE.trans k2
  refine ⟨v, ⟨m2.I, fun _ => none, fun _ _ => False⟩, he, frz_rep k1 (hv.of_ext k2), ⟨k1.imm, fun n o h => by simp [obl] at h, fun n n' o o' x x' b h => by simp [obl] at h⟩, ?_, fun _ _ => rfl⟩
  refine ⟨kE.sub, kE.grow, kE.keep, kE.keepI, fun n x hx => ?_, fun b hb => ?_, kE.os, kE.tape, kE.output, kE.size⟩
  · rw [hfr n (Nat.zero_le _)] at hx; cases hx
  · obtain ⟨n, o, x, hn, _⟩ := hb
    simp [obl] at hn

/-! ### sets -/
theorem rd_v {w : World} {I : Nat → Prop} {x y : Value} (h : RD w I (.v x) y) : y = x := by cases h; rfl
end Go.Proofs.YtciegkpjenjaeaaDoor.Ab
