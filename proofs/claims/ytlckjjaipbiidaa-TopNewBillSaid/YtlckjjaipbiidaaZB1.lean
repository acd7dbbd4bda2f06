/- Maps whose keys are lists of integers: what the model makes of them. No program in sight. -/
import Derived.Test.YtlckjjaipbiidaaZAbV
import Derived.DeepKeys4
namespace Go.Proofs.Ytlckjjaipbiidaa.Ab
open Go Go.RowKit
set_option linter.unusedVariables false
set_option linter.unusedSimpArgs false

/-- The key that a list of integers is. -/
def keyV (l : List Int) : Value := .agg (l.map (Value.int .i64)).toArray
def InK (n : Nat) (l : List Int) : Prop := l.length = n ∧ ∀ x ∈ l, -9223372036854775808 ≤ x ∧ x ≤ 9223372036854775807
def msetK (f : List Int → Option Int) (l : List Int) (v : Int) : List Int → Option Int := fun y => if y = l then some v else f y
theorem msetK_same (f : List Int → Option Int) (l : List Int) (v : Int) : msetK f l v l = some v := by simp [msetK]
theorem msetK_ne {f : List Int → Option Int} {l y : List Int} {v : Int} (h : y ≠ l) : msetK f l v y = f y := by simp [msetK, h]
theorem keyV_inj {a b : List Int} (h : keyV a = keyV b) : a = b := by
  unfold keyV at h
  injection h with h1
  have h2 : a.map (Value.int .i64) = b.map (Value.int .i64) := by simpa using h1
  exact (List.map_inj_right (fun x y h => by injection h)).1 h2

/-- A map from lists of n integers to integers. -/
def MpK (n : Nat) (f : List Int → Option Int) (v : Value) (I F : Nat → Prop) (w : World) : Prop :=
  ∃ (g : Nat) (es : Array MapEntry) (clock : Nat), v = .map (some g) ∧ (∀ b, F b ↔ b = g) ∧ w.heap[g]? = some (.map es clock) ∧ MapKept.Stamped es clock ∧
    (∀ e ∈ es.toList, ∃ l y, InK n l ∧ e.key = keyV l ∧ f l = some y ∧ e.val = .int .i64 y) ∧ ∀ l y, f l = some y → ∃ e ∈ es.toList, e.key = keyV l
theorem MpK.stable {n : Nat} {f : List Int → Option Int} {v : Value} {I F I' : Nat → Prop} {w w' : World} (h : MpK n f v I F w) (hk : ∀ b, F b → w'.heap[b]? = w.heap[b]?) : MpK n f v I' F w' := by
  obtain ⟨g, es, clock, h1, h2, h3, h4, h5, h6⟩ := h
  exact ⟨g, es, clock, h1, h2, (hk g ((h2 g).2 rfl)).trans h3, h4, h5, h6⟩

/-- What a key's type must be. -/
structure KeyT (P : Program) (kt : TypeId) (n : Nat) : Prop where
  law : WideMaps.KeyLaw P kt
  key : ∀ l, InK n l → ∃ lit, keyOf P kt (keyV l) = some lit

theorem findK {P : Program} {kt : TypeId} {n : Nat} (hT : KeyT P kt n) {w : World} {es : Array MapEntry} {f : List Int → Option Int} {l : List Int} (hl : InK n l)
    (he : ∀ e ∈ es.toList, ∃ l y, InK n l ∧ e.key = keyV l ∧ f l = some y ∧ e.val = .int .i64 y) (hf : ∀ l y, f l = some y → ∃ e ∈ es.toList, e.key = keyV l) :
    ((Instr.findKey kt (keyV l) es.toList).run P w = .ok none w ∧ f l = none ∧ ∀ e ∈ es.toList, e.key ≠ keyV l) ∨
    ∃ j e y, (Instr.findKey kt (keyV l) es.toList).run P w = .ok (some (j, e.val)) w ∧ es[j]? = some e ∧ e.key = keyV l ∧ f l = some y ∧ e.val = .int .i64 y := by
  obtain ⟨lit, hlit⟩ := hT.key l hl
  rcases hT.law.find w hlit es.toList (fun e hm => by
    obtain ⟨l', y, h1, h2, _⟩ := he e hm
    rw [h2]
    exact hT.key l' h1) with ⟨h1, h2⟩ | ⟨j, e, h1, h2, h3⟩
  · refine .inl ⟨h1, ?_, h2⟩
    cases hfl : f l with
    | none => rfl
    | some y =>
      obtain ⟨e, hm, hk⟩ := hf l y hfl
      exact (h2 e hm hk).elim
  · obtain ⟨l', y, g1, g2, g3, g4⟩ := he e (List.mem_of_getElem? h2)
    have e1 : l' = l := keyV_inj (g2.symm.trans h3)
    subst e1
    exact .inr ⟨j, e, y, h1, by simpa using h2, h3, g3, g4⟩

section
variable {P : Program} {eq : TypeId → Option (List Value)} {R : AS → Prop} {as : AS} {k : Nat} {t kt et : TypeId} {n j : Nat} {f : List Int → Option Int} {l : List Int}

theorem evs_key {m : Mem} {w : World} {a : Act} {as : AS} (hR : Rel m w as a) {y : Operand} {l : List Int} (hy : ev as y = .agg (l.map fun z => .v (.int .i64 z))) : a.eval y = keyV l := by
  have h := ev_rep hR y
  rw [hy] at h
  generalize hv : a.eval y = v at h
  cases h with
  | agg _ xs hl h1 h =>
    unfold keyV
    congr 1
    apply Array.ext
    · simp only [List.length_map] at hl; simp [hl]
    · intro i h2 h3
      have h4 := h i (.v (.int .i64 (l[i]'(by simp at hl; omega)))) (by simp)
      have h5 := rep_v h4
      simp only [List.getElem_toArray, List.getElem_map]
      rw [Array.getD_eq_getD_getElem?, Array.getElem?_eq_getElem h2] at h5
      exact h5

theorem sem_lookup {x y : Operand} (hu : P.underlying t = some (.map kt et)) (hz : (∀ w, (zeroValue et).run P w = .ok (.int .i64 0) w)) (hT : KeyT P kt n) (hx : ev as x = .mp j) (hob : as.ob j = some (.opq (MpK n f)))
    (hy : ev as y = .agg (l.map fun z => .v (.int .i64 z))) (hl : InK n l) : SemStep P k (.lookup t x y true) as (.tup [.v (.int .i64 ((f l).getD 0)), .v (.bool (f l).isSome)]) [] := by
  intro o as' ho hop hfp m w a hR hk
  have hmx : x ∈ (Op.lookup t x y true).operands.toList := by simp [Op.operands]
  have hmy : y ∈ (Op.lookup t x y true).operands.toList := by simp [Op.operands]
  have hxj : ev as' x = .mp j := by rw [hop x hmx]; exact hx
  have hob' : as'.ob j = some (.opq (MpK n f)) := by rw [hfp j (fpt_get rfl hmx (by rw [hx]; simp [idsOf, idA, id1]))]; exact hob
  have hey : a.eval y = keyV l := evs_key hR (by rw [hop y hmy]; exact hy)
  have ex := ev_rep hR x
  rw [hxj] at ex
  generalize hvx : a.eval x = vx at ex
  cases ex with
  | mp _ g hb =>
  obtain ⟨v, hv, hat⟩ := hR.mr.obs j _ hob'
  rw [hb] at hv
  cases hv
  obtain ⟨g', es, clock, e1, hF, hh, hst, he, hf⟩ := hat.1
  cases e1
  obtain ⟨lit, hlit⟩ := hT.key l hl
  have hck := hT.law.check w es.isEmpty hlit
  rcases findK hT (w := w) hl he hf with ⟨h1, h2, h3⟩ | ⟨i, e, z, h1, h2, h3, h4, h5⟩
  · have hrun : (Instr.lookup t (.map (some g)) (keyV l) true).run P w = .ok (.tuple #[.int .i64 0, .bool false]) w := by
      simp [Instr.lookup, run_underlying hu, MapKept.run_getObj_map hh, hck, h1, hz w, Result.andThen]
    rw [h2]
    refine did_pure hR (by simp only [execOp, ho, hvx, hey, Sem.run_bind, hrun]; rfl) (.tup _ _ rfl (fun i c hc => by
      match i, hc with
      | 0, hc => cases hc; exact .v _
      | 1, hc => cases hc; exact .v _))
  · have hrun : (Instr.lookup t (.map (some g)) (keyV l) true).run P w = .ok (.tuple #[e.val, .bool true]) w := by
      simp [Instr.lookup, run_underlying hu, MapKept.run_getObj_map hh, hck, h1, Result.andThen]
    rw [h4]
    rw [h5] at hrun
    refine did_pure hR (by simp only [execOp, ho, hvx, hey, Sem.run_bind, hrun]; rfl) (.tup _ _ rfl (fun i c hc => by
      match i, hc with
      | 0, hc => cases hc; exact .v _
      | 1, hc => cases hc; exact .v _))
theorem sem_makeMap : SemStep P k (.makeMap t none) as (.mp k) [(k, some (.opq (MpK n fun _ => none)))] := by
  intro o as' ho hop hfp m w a hR hk
  refine ⟨_, _, _, ⟨m.I, upd m.β k (some (.map (some w.heap.size))), fun n b => if n = k then b = w.heap.size else m.φ n b⟩, by simp only [execOp, ho, Instr.makeMap, Option.map_none]; rfl, .inl rfl, .mp _ _ (by simp [upd]), ?_⟩
  have hnew := heap_alloc_new w (.map #[] 0)
  have hold : ∀ b, b < w.heap.size → (w.alloc (.map #[] 0)).heap[b]? = w.heap[b]? := fun b hb => heap_alloc_old w _ hb
  have c : Chg m w as'.ob (fun _ => False) (fun _ => False) (fun n => n = k) ⟨m.I, upd m.β k (some (.map (some w.heap.size))), fun n b => if n = k then b = w.heap.size else m.φ n b⟩ (w.alloc (.map #[] 0)) (upd as'.ob k (some (.opq (MpK n fun _ => none)))) := by
    refine ⟨fun b hb => hb.elim, fun b hb _ => hold b hb, by simp, rfl, rfl, rfl, fun b hb => hb, fun b hb => .inl hb, fun b hb => Nat.lt_of_lt_of_le (hR.mr.imm b hb) (by simp), bind_beta hk, fun n _ hn => by simp only; funext b; simp [hn], fun n' o' ho' => ?_, fun n n' _ _ _ _ _ hn hn' _ _ _ _ hne _ _ _ => absurd (hn.trans hn'.symm) hne⟩
    by_cases hnk : n' = k
    · subst hnk
      simp only [upd, if_true, Option.some.injEq] at ho'
      subst ho'
      refine .inr ⟨rfl, .map (some w.heap.size), by simp [upd], ?_, fun b _ hb' => ?_⟩
      · show OpqAt _ _ _ _ _
        have hM : MpK n (fun _ => none) (.map (some w.heap.size)) m.I (fun b => b = w.heap.size) (w.alloc (.map #[] 0)) := ⟨w.heap.size, #[], 0, rfl, fun b => Iff.rfl, hnew, MapKept.stamped_empty 0, fun e he => by simp at he, fun l y h => by cases h⟩
        refine ⟨by simpa using hM, fun b hb => ?_, fun I' w' hs hF hlat hkk => ?_⟩
        · simp only [if_true] at hb
          subst hb
          exact ⟨by simp, fun hI2 => by have := hR.mr.imm _ hI2; omega⟩
        · simp only [if_true] at hkk ⊢
          exact hM.stable fun b hb => hkk b (.inl hb)
      · have : b = w.heap.size := by simpa [foot] using hb'
        exact .inr (by omega)
    · simp only [upd, if_neg hnk] at ho'
      exact .inl ⟨ho', fun h => h, hnk⟩
  exact ⟨c.mr hR.mr, c.ext hR.mr, fun n hn => by simp [upd, hn]⟩
theorem sem_mapUpdate {x y z : Operand} {v : Int} (hu : P.underlying t = some (.map kt et)) (hT : KeyT P kt n) (hx : ev as x = .mp j) (hob : as.ob j = some (.opq (MpK n f)))
    (hy : ev as y = .agg (l.map fun z => .v (.int .i64 z))) (hl : InK n l) (hz : ev as z = .v (.int .i64 v)) : SemStep P k (.mapUpdate t x y z) as (.v undef) [(j, some (.opq (MpK n (msetK f l v))))] := by
  intro o as' ho hop hfp m w a hR hk
  have hmx : x ∈ (Op.mapUpdate t x y z).operands.toList := by simp [Op.operands]
  have hmy : y ∈ (Op.mapUpdate t x y z).operands.toList := by simp [Op.operands]
  have hmz : z ∈ (Op.mapUpdate t x y z).operands.toList := by simp [Op.operands]
  have hxj : ev as' x = .mp j := by rw [hop x hmx]; exact hx
  have hob' : as'.ob j = some (.opq (MpK n f)) := by rw [hfp j (fpt_get rfl hmx (by rw [hx]; simp [idsOf, idA, id1]))]; exact hob
  have hey : a.eval y = keyV l := evs_key hR (by rw [hop y hmy]; exact hy)
  have hez : a.eval z = .int .i64 v := rep_v (by have := ev_rep hR z; rw [hop z hmz, hz] at this; exact this)
  have ex := ev_rep hR x
  rw [hxj] at ex
  generalize hvx : a.eval x = vx at ex
  cases ex with
  | mp _ g hb =>
  obtain ⟨v', hv, hat⟩ := hR.mr.obs j _ hob'
  rw [hb] at hv
  cases hv
  obtain ⟨g', es, clock, e1, hF, hh, hst, he, hf⟩ := hat.1
  cases e1
  obtain ⟨lit, hlit⟩ := hT.key l hl
  have hck := hT.law.check w false hlit
  obtain ⟨es', clock', hrun, hst', he', hf'⟩ : ∃ es' clock', (Instr.mapUpdate t (.map (some g)) (keyV l) (.int .i64 v)).run P w = .ok () { w with heap := w.heap.setIfInBounds g (.map es' clock') } ∧ MapKept.Stamped es' clock' ∧
      (∀ e ∈ es'.toList, ∃ l' y, InK n l' ∧ e.key = keyV l' ∧ msetK f l v l' = some y ∧ e.val = .int .i64 y) ∧ ∀ l' y, msetK f l v l' = some y → ∃ e ∈ es'.toList, e.key = keyV l' := by
    rcases findK hT (w := w) hl he hf with ⟨h1, h2, h3⟩ | ⟨i, e, y0, h1, h2, h3, h4, h5⟩
    · refine ⟨es.push ⟨keyV l, .int .i64 v, clock⟩, clock + 1, ?_, MapKept.stamped_push hst h3, fun e hm => ?_, fun l' y hy2 => ?_⟩
      · simp [Instr.mapUpdate, run_underlying hu, MapKept.run_getObj_map hh, hck, h1, MapKept.run_setObj_map _ hh, Result.andThen]
      · simp only [Array.toList_push, List.mem_append, List.mem_singleton] at hm
        rcases hm with hm | rfl
        · obtain ⟨l', y, g1, g2, g3, g4⟩ := he e hm
          have hne : l' ≠ l := fun e1 => h3 e hm (by rw [g2, e1])
          exact ⟨l', y, g1, g2, by rw [msetK_ne hne]; exact g3, g4⟩
        · exact ⟨l, v, hl, rfl, msetK_same _ _ _, rfl⟩
      · by_cases hxi : l' = l
        · subst hxi
          exact ⟨⟨keyV l', .int .i64 v, clock⟩, by simp, rfl⟩
        · rw [msetK_ne hxi] at hy2
          obtain ⟨e, hm, hk⟩ := hf l' y hy2
          exact ⟨e, by simp [hm], hk⟩
    · have hkey : ∀ e', es[i]? = some e' → ({ e' with key := keyV l, val := .int .i64 v } : MapEntry).key = e'.key := fun e' he' => by rw [h2] at he'; cases he'; exact h3.symm
      refine ⟨es.modify i (fun e' => { e' with key := keyV l, val := .int .i64 v }), clock, ?_, MapKept.stamped_modify hst _ _ (fun _ _ => rfl) (fun e' _ he' => hkey e' he'), fun y hm => ?_, fun l' y hy2 => ?_⟩
      · have hstay := hT.law.stays w hlit
        simp [Instr.mapUpdate, run_underlying hu, MapKept.run_getObj_map hh, hck, h1, h2, h3, hstay, MapKept.run_setObj_map _ hh, Result.andThen]
      · rcases mem_modify_map hm with ⟨i', hne, hy'⟩ | ⟨e', hj', rfl⟩
        · obtain ⟨l', y1, g1, g2, g3, g4⟩ := he y (List.mem_of_getElem? (by simpa using hy'))
          have hxi : l' ≠ l := fun e1 => by
            have hnd := hst.2.2
            have hi'l : i' < es.toList.length := by simpa using (Array.getElem?_eq_some_iff.1 hy').1
            have e2 : (es.toList.map (·.key))[i']? = (es.toList.map (·.key))[i]? := by
              rw [List.getElem?_map, List.getElem?_map, Array.getElem?_toList, Array.getElem?_toList, hy', h2]
              simp [g2, h3, e1]
            exact hne ((List.getElem?_inj (by simpa using hi'l) hnd).1 e2)
          exact ⟨l', y1, g1, g2, by rw [msetK_ne hxi]; exact g3, g4⟩
        · exact ⟨l, v, hl, rfl, msetK_same _ _ _, rfl⟩
      · have hk2 : (es.modify i (fun e' => { e' with key := keyV l, val := .int .i64 v })).toList.map (·.key) = es.toList.map (·.key) := MapKept.modify_keys i _ hkey
        have hex : ∃ e ∈ es.toList, e.key = keyV l' := by
          by_cases hxi : l' = l
          · subst hxi
            exact ⟨e, List.mem_of_getElem? (by simpa using h2), h3⟩
          · rw [msetK_ne hxi] at hy2
            exact hf l' y hy2
        obtain ⟨e1, hm1, hk1⟩ := hex
        have : keyV l' ∈ (es.modify i (fun e' => { e' with key := keyV l, val := .int .i64 v })).toList.map (·.key) := by rw [hk2]; exact List.mem_map.2 ⟨e1, hm1, hk1⟩
        obtain ⟨e3, hm3, hk3⟩ := List.mem_map.1 this
        exact ⟨e3, hm3, hk3⟩
  have hset := MapKept.heap_set (w := w) (r := g) (o' := .map es' clock') hh
  have hnew : MpK n (msetK f l v) (.map (some g)) m.I (m.φ j) { w with heap := w.heap.setIfInBounds g (.map es' clock') } := ⟨g, es', clock', rfl, hF, hset.1, hst', he', hf'⟩
  have hsz : w.heap.size = ({ w with heap := w.heap.setIfInBounds g (.map es' clock') } : World).heap.size := by simp
  obtain ⟨hm, hE⟩ := set_step (w' := { w with heap := w.heap.setIfInBounds g (.map es' clock') }) (o' := .opq (MpK n (msetK f l v))) hR.mr hob' rfl hb
    (fun b _ hne => hset.2 b fun e1 => hne (by subst e1; exact (hF b).2 rfl)) hsz rfl rfl rfl
    ⟨hnew, fun b hb => ⟨by rw [← hsz]; exact (hat.2.1 b hb).1, (hat.2.1 b hb).2⟩, fun I' w' hs _ _ hkk => hnew.stable fun b hb => hkk b (.inl hb)⟩ (fun b hb => hb)
  exact ⟨_, _, _, m, by simp only [execOp, ho, hvx, hey, hez, Sem.run_bind, hrun]; rfl, .inr ⟨rfl, rfl⟩, .v _, hm, hE, fun n _ => rfl⟩

/-! in the walk -/
variable {ops : Array Oper} {lg : Lg} {ls : List Oper} {st : List Wk} {k1 : Nat} {dst : Option Tmp}
theorem semO_makeMap (n : Nat) (hm : mpt P t = none)
    (hK : chkL ops lg as (.makeMap t none) [(k, some (.opq (MpK n fun _ => none)))] ∧ goO P eq R ops (advL lg as (.makeMap t none) [(k, some (.opq (MpK n fun _ => none)))]) (k + 8) ls st k1 ((as.chg [(k, some (.opq (MpK n fun _ => none)))]).put dst (.mp k))) :
    semO P eq R ops lg k (.makeMap t none) dst ls st k1 as :=
  ⟨rfl, rfl, by simp [opD, hm], _, _, sem_makeMap, hK⟩
end
end Go.Proofs.Ytlckjjaipbiidaa.Ab
