/- Contracts whose new objects are frozen at the call's end: the result is data. -/
import Derived.Test.YtlckjjaipbiidaaZAbQ
namespace Go.Proofs.Ytlckjjaipbiidaa.Ab
open Go Go.RowKit
set_option linter.unusedSimpArgs false
set_option linter.unusedVariables false
def frz0 (objs : List Obj) : AV → AV
  | .ob n _ => match objs[n]? with
    | some (.row _ sz rows _) => .sl sz rows
    | _ => .un
  | .v x => .v x
  | .sl sz rows => .sl sz rows
  | _ => .un
def frz1 (objs : List Obj) : AV → AV
  | .agg l => .agg (l.map (frz0 objs))
  | a => frz0 objs a
/-- A result as data: all new rows frozen. -/
def frz (objs : List Obj) : AV → AV
  | .tup l => .tup (l.map (frz1 objs))
  | a => frz1 objs a
section
variable {w : World} {m : Mem} {objs : List Obj}
theorem fzs_obl (ob : Nat → Option Obj) : ∀ (l : List Nat) (n e sz : Nat) (rows : List (List DV)) (fz : Bool), ob n = some (.row e sz rows fz) → ∃ fz', fzs ob l n = some (.row e sz rows fz') ∧ (n ∈ l ∨ fz = true → fz' = true)
  | [], n, e, sz, rows, fz, h => ⟨fz, h, fun h => by simpa using h⟩
  | i :: l, n, e, sz, rows, fz, h => by
    have h1 : ∃ fz1', fz1 ob i n = some (.row e sz rows fz1') ∧ (n = i ∨ fz = true → fz1' = true) := by
      by_cases hni : n = i
      · subst hni
        cases fz with
        | true => exact ⟨true, by simp only [fz1, h], fun _ => rfl⟩
        | false => exact ⟨true, by simp only [fz1, h, upd]; rfl, fun _ => rfl⟩
      · refine ⟨fz, ?_, fun h => by rcases h with h | h; exact absurd h hni; exact h⟩
        have : fz1 ob i n = ob n := by
          unfold fz1
          cases ob i with
          | none => rfl
          | some o => cases o with
            | row e2 sz2 rows2 fz2 => cases fz2 <;> simp [upd, hni]
            | _ => rfl
        rw [this, h]
    obtain ⟨f1, g1, g2⟩ := h1
    obtain ⟨f2, g3, g4⟩ := fzs_obl (fz1 ob i) l n e sz rows f1 g1
    refine ⟨f2, g3, fun hh => g4 ?_⟩
    rcases hh with hh | hh
    · rcases List.mem_cons.1 hh with hh | hh
      · exact .inr (g2 (.inl hh))
      · exact .inl hh
    · exact .inr (g2 (.inr hh))
theorem frz0_rep (hR : MR m w (fzs (obl objs) (List.range objs.length))) {a : AV} {x : Value} (h : Rep w m a x) : Rep w ⟨m.I, fun _ => none, fun _ _ => False⟩ (frz0 objs a) x := by
  unfold frz0
  split
  · rename_i n len
    split
    · rename_i e sz rows fz hn
      obtain ⟨fz', g1, g2⟩ := fzs_obl (obl objs) (List.range objs.length) n e sz rows fz hn
      have hlt : n < objs.length := by
        rcases Nat.lt_or_ge n objs.length with h | h
        · exact h
        · rw [List.getElem?_eq_none h] at hn; cases hn
      obtain rfl := g2 (.inl (List.mem_range.2 hlt))
      obtain ⟨v, hv, hat⟩ := hR.obs _ _ g1
      cases h with
      | ob _ _ A c hb =>
      rw [hb] at hv
      cases hv
      exact .sl _ _ _ (row_RD hat)
    · exact .un _
  · cases h; exact .v _
  · cases h with
    | sl _ _ _ h => exact .sl _ _ _ h
  · exact .un _
theorem frz1_rep (hR : MR m w (fzs (obl objs) (List.range objs.length))) {a : AV} {x : Value} (h : Rep w m a x) : Rep w ⟨m.I, fun _ => none, fun _ _ => False⟩ (frz1 objs a) x := by
  unfold frz1
  split
  · cases h with
    | agg l xs hl h1 h =>
    refine .agg _ _ (by simpa using hl) h1 fun i a ha => ?_
    rw [List.getElem?_map, Option.map_eq_some_iff] at ha
    obtain ⟨a0, ha0, rfl⟩ := ha
    exact frz0_rep hR (h i a0 ha0)
  · exact frz0_rep hR h
theorem frz_rep (hR : MR m w (fzs (obl objs) (List.range objs.length))) {a : AV} {x : Value} (h : Rep w m a x) : Rep w ⟨m.I, fun _ => none, fun _ _ => False⟩ (frz objs a) x := by
  unfold frz
  split
  · cases h with
    | tup l xs hl h =>
    refine .tup _ _ (by simpa using hl) fun i a ha => ?_
    rw [List.getElem?_map, Option.map_eq_some_iff] at ha
    obtain ⟨a0, ha0, rfl⟩ := ha
    exact frz1_rep hR (h i a0 ha0)
  · exact frz1_rep hR h
end
theorem SpecG.frz {P : Program} {f : FuncId} {args : List AV} {r : AV} {objs : List Obj} (h : SpecF P f args r objs) : SpecF P f args (Ab.frz objs r) [] := by
  obtain ⟨h1, h2, h3, h4⟩ := h
  refine ⟨h1, Nat.le_refl _, Nat.zero_le _, fun m w vs hR hfr hsz hrep => (h4 m w vs hR hfr hsz hrep).mono fun e w' hq => ?_⟩
  obtain ⟨v, m', he, hv, hm, hE, hf⟩ := hq
  obtain ⟨m2, k1, k2, k3, k4⟩ := fzs_step hm (List.range objs.length)
  have kE := hE.trans k2
  refine ⟨v, ⟨m2.I, fun _ => none, fun _ _ => False⟩, he, frz_rep k1 (hv.of_ext k2), ⟨k1.imm, fun n o h => by simp [obl] at h, fun n n' o o' x x' b h => by simp [obl] at h⟩, ?_, fun _ _ => rfl⟩
  refine ⟨kE.sub, kE.grow, kE.keep, kE.keepI, fun n x hx => ?_, fun b hb => ?_, kE.os, kE.tape, kE.output, kE.size⟩
  · rw [hfr n (Nat.zero_le _)] at hx; cases hx
  · obtain ⟨n, o, x, hn, _⟩ := hb
    simp [obl] at hn

/-! ### sets -/
/-- A set of integers, as a map. -/
noncomputable def sF (p : Int → Prop) : Int → Option DV := fun x => if inS p x then some (.v (.bool true)) else none
theorem sF_none : (fun _ => none : Int → Option DV) = sF (fun _ => False) := by
  funext x
  have : inS (fun _ => False) x = false := inS_not.2 id
  simp [sF, this]
theorem sF_set (p : Int → Prop) (x : Int) : mset (sF p) x (.v (.bool true)) = sF (fun y => y = x ∨ p y) := by
  funext y
  unfold mset sF
  by_cases h : y = x
  · have : inS (fun y => y = x ∨ p y) y = true := inS_iff.2 (.inl h)
    rw [if_pos h, this]; rfl
  · rw [if_neg h]
    have : inS (fun y => y = x ∨ p y) y = inS p y := by
      cases hb : inS p y with
      | true => exact inS_iff.2 (.inr (inS_iff.1 hb))
      | false => exact inS_not.2 fun h' => h'.elim h (inS_not.1 hb)
    rw [this]
theorem sF_some {p : Int → Prop} {x : Int} {d : DV} (h : sF p x = some d) : p x ∧ d = .v (.bool true) := by
  unfold sF at h
  split at h
  · rename_i hb; cases h; exact ⟨inS_iff.1 hb, rfl⟩
  · cases h
theorem rd_v {w : World} {I : Nat → Prop} {x y : Value} (h : RD w I (.v x) y) : y = x := by cases h; rfl
theorem setE_of {w : World} {m : Mem} {p : Int → Prop} {v : Value} (h : MapAt w m .i64 (sF p) v) : ∃ g es clock, v = .map (some g) ∧ w.heap[g]? = some (.map es clock) ∧ SetE es clock p ∧ ¬ m.I g := by
  obtain ⟨g, es, clock, h1, h2, h3, h4, h5, h6⟩ := h
  refine ⟨g, es, clock, h1, h2, ⟨h3, fun e he => ?_, fun x hx => h6 x (.v (.bool true)) (by unfold sF; rw [if_pos (inS_iff.2 hx)])⟩, h4⟩
  obtain ⟨x, d, g1, g2, g3⟩ := h5 e he
  obtain ⟨g4, rfl⟩ := sF_some g2
  exact ⟨x, g1, g4, rd_v g3⟩
def frM0 (n : Nat) (ps : List (Int → Prop)) : AV → AV
  | .mp j => if j < n then .mp j else match ps[j - n]? with
    | some p => .fs p
    | none => .un
  | .v x => .v x
  | .sl sz rows => .sl sz rows
  | .fs p => .fs p
  | _ => .un
def frM1 (n : Nat) (ps : List (Int → Prop)) : AV → AV
  | .agg l => .agg (l.map (frM0 n ps))
  | a => frM0 n ps a
/-- A result, its new maps frozen. -/
def frM (n : Nat) (ps : List (Int → Prop)) : AV → AV
  | .tup l => .tup (l.map (frM1 n ps))
  | a => frM1 n ps a
theorem frM0_rep {w : World} {m m3 : Mem} {n : Nat} {ps : List (Int → Prop)} (hI : ∀ b, m.I b → m3.I b) (hβ : ∀ j, j < n → m3.β j = m.β j) (hm : ∀ i p, ps[i]? = some p → ∃ g es clock, m.β (n + i) = some (.map (some g)) ∧ w.heap[g]? = some (.map es clock) ∧ SetE es clock p ∧ m3.I g)
    {a : AV} {x : Value} (h : Rep w m a x) : Rep w m3 (frM0 n ps a) x := by
  cases a with
  | mp j =>
    simp only [frM0]
    cases h with
    | mp _ r hb =>
    split
    · rename_i hj
      exact .mp _ _ (by rw [hβ j hj]; exact hb)
    · rename_i hj
      split
      · rename_i p hp
        obtain ⟨g, es, clock, h1, h2, h3, h4⟩ := hm _ p hp
        have e : n + (j - n) = j := by omega
        rw [e, hb] at h1
        cases h1
        exact .fs _ _ es clock h4 h2 h3
      · exact .un _
  | v => cases h; exact .v _
  | sl => cases h with | sl _ _ _ h => exact .sl _ _ _ (h.ext hI (fun _ _ => rfl))
  | fs => cases h with | fs _ r es clock hI' hh hs => exact .fs _ r es clock (hI r hI') hh hs
  | _ => exact .un _
theorem frM1_rep {w : World} {m m3 : Mem} {n : Nat} {ps : List (Int → Prop)} (hI : ∀ b, m.I b → m3.I b) (hβ : ∀ j, j < n → m3.β j = m.β j) (hm : ∀ i p, ps[i]? = some p → ∃ g es clock, m.β (n + i) = some (.map (some g)) ∧ w.heap[g]? = some (.map es clock) ∧ SetE es clock p ∧ m3.I g)
    {a : AV} {x : Value} (h : Rep w m a x) : Rep w m3 (frM1 n ps a) x := by
  cases a with
  | agg l =>
    cases h with
    | agg _ xs hl h1 h =>
    refine .agg _ xs (by simpa using hl) h1 fun i c hc => ?_
    obtain ⟨c', hc', rfl⟩ := get_map hc
    exact frM0_rep hI hβ hm (h i c' hc')
  | _ => exact frM0_rep hI hβ hm h
theorem frM_rep {w : World} {m m3 : Mem} {n : Nat} {ps : List (Int → Prop)} (hI : ∀ b, m.I b → m3.I b) (hβ : ∀ j, j < n → m3.β j = m.β j) (hm : ∀ i p, ps[i]? = some p → ∃ g es clock, m.β (n + i) = some (.map (some g)) ∧ w.heap[g]? = some (.map es clock) ∧ SetE es clock p ∧ m3.I g)
    {a : AV} {x : Value} (h : Rep w m a x) : Rep w m3 (frM n ps a) x := by
  cases a with
  | tup l =>
    cases h with
    | tup _ xs hl h =>
    refine .tup _ xs (by simpa using hl) fun i c hc => ?_
    obtain ⟨c', hc', rfl⟩ := get_map hc
    exact frM1_rep hI hβ hm (h i c' hc')
  | _ => exact frM1_rep hI hβ hm h
/-- **A contract whose new maps are frozen at the call's end.** -/
theorem SpecG.frzM {P : Program} {f : FuncId} {args : List AV} {pre pre' : List Obj} {r : AV} (ps : List (Int → Prop)) (h : SpecG P f args pre r (pre' ++ ps.map fun p => .map .i64 (sF p))) (hl : pre'.length = pre.length) (hself : ∀ o ∈ pre', eqO (rn pre.length []) o o) : SpecG P f args pre (frM pre.length ps r) pre' := by
  obtain ⟨h1, h2, h3, h4⟩ := h
  refine ⟨h1, by omega, by omega, fun m w vs hR hfr hsz hrep => (h4 m w vs hR hfr hsz hrep).mono fun e w' hq => ?_⟩
  obtain ⟨v, m', he, hv, hm, hE, hf⟩ := hq
  let n := pre.length
  let post := pre' ++ ps.map fun p => Obj.map .i64 (sF p)
  have hpl : post.length = n + ps.length := by simp [post, n, hl]
  have ho1 : ∀ j o, obl pre' j = some o → j < n ∧ obl post j = some o := fun j o ho => by
    have hj : j < pre'.length := by
      rcases Nat.lt_or_ge j pre'.length with h | h
      · exact h
      · unfold obl at ho; rw [List.getElem?_eq_none h] at ho; cases ho
    exact ⟨by omega, by unfold obl at ho ⊢; rw [List.getElem?_append_left hj]; exact ho⟩
  have ho2 : ∀ i p, ps[i]? = some p → obl post (n + i) = some (.map .i64 (sF p)) := fun i p hp => by
    unfold obl
    rw [List.getElem?_append_right (by omega)]
    have : n + i - pre'.length = i := by omega
    rw [this, List.getElem?_map, hp]
    rfl
  have hmap : ∀ i p, ps[i]? = some p → ∃ g es clock, m'.β (n + i) = some (.map (some g)) ∧ w'.heap[g]? = some (.map es clock) ∧ SetE es clock p ∧ ¬ m'.I g := fun i p hp => by
    obtain ⟨v, hv, hat⟩ := hm.obs _ _ (ho2 i p hp)
    obtain ⟨g, es, clock, rfl, g2, g3, g4⟩ := setE_of hat
    exact ⟨g, es, clock, hv, g2, g3, g4⟩
  let T : Nat → Prop := fun b => ∃ i p, ps[i]? = some p ∧ m'.β (n + i) = some (.map (some b))
  let m2 : Mem := ⟨fun b => m'.I b ∨ T b, m'.β, m'.φ⟩
  have hTlt : ∀ b, T b → b < w'.heap.size := fun b hb => by
    obtain ⟨i, p, hp, hb⟩ := hb
    obtain ⟨g, es, clock, k1, k2, _, _⟩ := hmap i p hp
    rw [hb] at k1
    cases k1
    exact (Array.getElem?_eq_some_iff.1 k2).1
  have c : Chg m' w' (obl post) (fun j => n ≤ j) T (fun _ => False) m2 w' (obl pre') := by
    refine ⟨fun b hb => ?_, fun _ _ _ => rfl, Nat.le_refl _, rfl, rfl, rfl, fun b hb => .inl hb, fun b hb => hb.elim .inl fun h => .inr (.inl h), fun b hb => hb.elim (hm.imm b) (hTlt b), fun _ _ h => h, fun _ _ _ => rfl, fun j o ho => ?_, fun _ _ _ _ _ _ _ hd => hd.elim⟩
    · obtain ⟨i, p, hp, hb⟩ := hb
      exact ⟨n + i, _, _, Nat.le_add_right _ _, ho2 i p hp, rfl, hb, rfl⟩
    · obtain ⟨hj, ho'⟩ := ho1 j o ho
      exact .inl ⟨ho', by omega, fun h => h⟩
  have hm2 := c.mr hm
  have hE2 := hE.trans (c.ext hm)
  let m3 : Mem := ⟨m2.I, fun j => if j < n then m2.β j else none, fun j b => if j < n then m2.φ j b else False⟩
  have hβ3 : ∀ j, j < n → m3.β j = m2.β j := fun j hj => by show (if j < n then m2.β j else none) = _; rw [if_pos hj]
  have hφ3 : ∀ j, j < n → m3.φ j = m2.φ j := fun j hj => by funext b; show (if j < n then m2.φ j b else False) = _; rw [if_pos hj]
  have hat3 : ∀ j o, obl pre' j = some o → ∃ v, m2.β j = some v ∧ m3.β j = some v ∧ ObAt w' m3 j v o ∧ ∀ b, foot m3 j v o b ↔ foot m2 j v o b := fun j o ho => by
    obtain ⟨hj, _⟩ := ho1 j o ho
    obtain ⟨v, hv, hat⟩ := hm2.obs j o ho
    have hs := hself o (List.mem_of_getElem? (by unfold obl at ho; exact ho))
    obtain ⟨k1, _, k3⟩ := ObAt.eqO (m := m2) (m' := m3) (ρ := rn n []) (n := j) (n' := j) rfl (fun a a' ha => by
        unfold rn at ha
        split at ha
        · rename_i hlt; cases ha; exact hβ3 _ hlt
        · simp at ha) (fun a' ha => by
        unfold rn at ha
        split at ha
        · cases ha
        · simp at ha) (hφ3 j hj) hat hs
    exact ⟨v, hv, by rw [hβ3 j hj]; exact hv, k1, k3⟩
  have hown : ∀ b, own m3 (obl pre') b → own m2 (obl pre') b := fun b hb => by
    obtain ⟨j, o, x, k1, k2, k3, k4⟩ := hb
    obtain ⟨v, g1, g2, _, g4⟩ := hat3 j o k1
    rw [g2] at k3
    cases k3
    exact ⟨j, o, _, k1, k2, g1, (g4 b).1 k4⟩
  refine ⟨v, m3, he, ?_, ⟨hm2.imm, fun j o ho => ?_, fun j j' o o' x x' b k1 k2 k3 k4 k5 k6 k7 k8 => ?_⟩, ⟨hE2.sub, hE2.grow, hE2.keep, hE2.keepI, fun j x hx => ?_, fun b hb => hE2.owned b (hown b hb), hE2.os, hE2.tape, hE2.output, hE2.size⟩, fun j hj => ?_⟩
  · refine frM_rep (m := m') (m3 := m3) (fun b hb => .inl hb) (fun j hj => hβ3 j hj) (fun i p hp => ?_) hv
    obtain ⟨g, es, clock, k1, k2, k3, _⟩ := hmap i p hp
    exact ⟨g, es, clock, k1, k2, k3, .inr ⟨i, p, hp, k1⟩⟩
  · obtain ⟨v, _, g2, g3, _⟩ := hat3 j o ho
    exact ⟨v, g2, g3⟩
  · obtain ⟨v, g1, g2, _, g4⟩ := hat3 j o k1
    obtain ⟨v', g1', g2', _, g4'⟩ := hat3 j' o' k2
    rw [g2] at k6
    rw [g2'] at k7
    cases k6; cases k7
    exact fun k9 => hm2.apart j j' o o' _ _ b k1 k2 k3 k4 k5 g1 g1' ((g4 b).1 k8) ((g4' b).1 k9)
  · have hj : j < n := by
      rcases Nat.lt_or_ge j n with h | h
      · exact h
      · rw [hfr j h] at hx; cases hx
    rw [hβ3 j hj]
    exact hE2.beta j x hx
  · show (if j < n then m2.β j else none) = none
    rw [if_neg (by omega)]
/-- An object of which nothing is said any more. -/
def Gone : Obj := .opq fun _ _ _ _ => True
/-- A function of a set is given a map that is not used again: what it leaves comes behind. -/
theorem SpecG.thawM {P : Program} {f : FuncId} {rest : List AV} {p : Int → Prop} {r : AV} {objs : List Obj} (h : SpecF P f (.fs p :: rest) r objs) (hrest : eqrL (eqr2 (rt [])) rest rest) : SpecG P f (.mp 0 :: rest) [.map .i64 (sF p)] (ren (· + 1) r) (Gone :: objs.map (renO (· + 1))) := by
  obtain ⟨h1, h2, h3, h4⟩ := h
  refine ⟨h1, by simp, by simpa using h3, fun m w vs hR hfr hsz hrep => ?_⟩
  obtain ⟨v, hv, hat⟩ := hR.obs 0 (.map .i64 (sF p)) rfl
  obtain ⟨g, es, clock, rfl, g2, g3, g4⟩ := setE_of hat
  have hglt : g < w.heap.size := (Array.getElem?_eq_some_iff.1 g2).1
  let m2 : Mem := ⟨fun b => m.I b ∨ b = g, fun _ => none, fun _ _ => False⟩
  have hm2 : MR m2 w (obl []) := ⟨fun b hb => hb.elim (hR.imm b) fun h => by rw [h]; exact hglt, fun n o h => by simp [obl] at h, fun n n' o o' x x' b h => by simp [obl] at h⟩
  have hown : own m (obl [.map .i64 (sF p)]) g := ⟨0, .map .i64 (sF p), _, rfl, rfl, hv, rfl⟩
  have hno : ∀ b, ¬ own m2 (obl []) b := fun b ⟨n, o, x, k1, _⟩ => by simp [obl] at k1
  refine (h4 m2 w vs hm2 (fun _ _ => rfl) hsz (fun i a ha => ?_)).mono fun e w' hq => ?_
  · cases i with
    | zero =>
      have : a = .fs p := by simpa using ha.symm
      subst this
      have h0 := hrep 0 (.mp 0) rfl
      revert h0
      generalize vs.getD 0 undef = x
      intro h0
      cases h0 with
      | mp _ r hb =>
      rw [hv] at hb
      cases hb
      exact .fs _ _ es clock (.inr rfl) g2 g3
    | succ i =>
      have ha' : rest[i]? = some a := by simpa using ha
      obtain ⟨hl, hg⟩ := eqrL_get hrest
      obtain ⟨c, hc, hca⟩ := hg i a ha'
      have h0 := hrep (i + 1) c (by simpa using hc)
      have h5 : Rep w ⟨m2.I, m.β, m.φ⟩ c (vs.getD (i + 1) undef) := h0.ext (fun b hb => .inl hb) (fun _ _ => rfl) (fun _ _ h => h)
      exact Rep.eqr2 (m := ⟨m2.I, m.β, m.φ⟩) (m' := m2) (ρ := rt []) rfl (fun n n' h => by simp [rt] at h) (fun n' h => by simp [rt] at h) h5 hca
  · obtain ⟨v', m', he, hr, hm, hE, hf⟩ := hq
    have hI' : m'.I g := hE.sub g (.inr rfl)
    let m3 : Mem := ⟨m'.I, fun n => if n = 0 then m.β 0 else m'.β (n - 1), fun n b => if n = 0 then False else m'.φ (n - 1) b⟩
    have hβ : ∀ n x, m'.β n = some x → m3.β (n + 1) = some x := fun n x hx => by
      show (if n + 1 = 0 then m.β 0 else m'.β (n + 1 - 1)) = some x
      rw [if_neg (by omega)]
      exact hx
    have hφ : ∀ n, m3.φ (n + 1) = m'.φ n := fun n => by
      funext b
      show (if n + 1 = 0 then False else m'.φ (n + 1 - 1) b) = _
      rw [if_neg (by omega)]
      rfl
    have hfoot : ∀ n x o b, foot m3 (n + 1) x (renO (· + 1) o) b ↔ foot m' n x o b := fun n x o b => by
      cases o with
      | opq Φ => show m3.φ (n + 1) b ↔ m'.φ n b; rw [hφ]
      | _ => exact Iff.rfl
    have hget : ∀ n o, obl (Gone :: objs.map (renO (· + 1))) n = some o → (n = 0 ∧ o = Gone) ∨ ∃ j o', n = j + 1 ∧ obl objs j = some o' ∧ o = renO (· + 1) o' := fun n o ho => by
      cases n with
      | zero => exact .inl ⟨rfl, by simpa [obl] using ho.symm⟩
      | succ j =>
        unfold obl at ho
        rw [List.getElem?_cons_succ, List.getElem?_map, Option.map_eq_some_iff] at ho
        obtain ⟨o', h5, rfl⟩ := ho
        exact .inr ⟨j, o', rfl, h5, rfl⟩
    have hlive : ∀ o : Obj, (renO (· + 1) o).live = o.live := fun o => by cases o <;> rfl
    refine ⟨v', m3, he, Rep.ren (m := m') (m' := m3) (ρ := (· + 1)) rfl hβ hr, ⟨hm.imm, fun n o ho => ?_, fun n n' o o' x x' b k1 k2 k3 k4 k5 k6 k7 k8 => ?_⟩, ⟨fun b hb => hE.sub b (.inl hb), fun b hb => ?_, fun b hb hn => ?_, fun b hb => hE.keepI b (.inl hb), fun n x hx => ?_, fun b hb => ?_, hE.os, hE.tape, hE.output, hE.size⟩, fun n hn => ?_⟩
    · rcases hget n o ho with ⟨rfl, rfl⟩ | ⟨j, o', rfl, h5, rfl⟩
      · exact ⟨_, hv, trivial, fun b hb => hb.elim, fun _ _ _ _ _ _ => trivial⟩
      · obtain ⟨x, hx, hat⟩ := hm.obs j o' h5
        exact ⟨x, hβ j x hx, ObAt.ren (m := m') (m' := m3) (ρ := (· + 1)) rfl hβ (hφ j) hat⟩
    · rcases hget n o k1 with ⟨rfl, rfl⟩ | ⟨j, o1, rfl, h5, rfl⟩
      · exact (show False from k8).elim
      · rcases hget n' o' k2 with ⟨rfl, rfl⟩ | ⟨j', o2, rfl, h6, rfl⟩
        · exact fun k9 => (show False from k9).elim
        · rw [hfoot] at k8 ⊢
          exact hm.apart j j' o1 o2 x x' b h5 h6 (by rw [← hlive]; exact k3) (by rw [← hlive]; exact k4) (fun e => k5 (by rw [e])) k6 k7 k8
    · rcases hE.grow b hb with (h | h) | h | h
      · exact .inl h
      · exact .inr (.inl (by rw [h]; exact hown))
      · exact (hno b h).elim
      · exact .inr (.inr h)
    · exact hE.keep b hb (hno b)
    · have hn0 : n = 0 := by
        rcases Nat.eq_zero_or_pos n with h | h
        · exact h
        · rw [hfr n (by simp; omega)] at hx; cases hx
      subst hn0
      exact hx
    · obtain ⟨n, o, x, k1, k2, k3, k4⟩ := hb
      rcases hget n o k1 with ⟨rfl, rfl⟩ | ⟨j, o1, rfl, h5, rfl⟩
      · exact (show False from k4).elim
      · rcases hE.owned b ⟨j, o1, x, h5, by rw [← hlive]; exact k2, k3, (hfoot j x o1 b).1 k4⟩ with h | h
        · exact (hno b h).elim
        · exact .inr h
    · simp only [List.length_cons, List.length_map] at hn
      show (if n = 0 then m.β 0 else m'.β (n - 1)) = none
      rw [if_neg (by omega)]
      exact hf _ (by omega)
end Go.Proofs.Ytlckjjaipbiidaa.Ab
