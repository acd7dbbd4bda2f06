/- All operations at once; an operation's step in the abstract state. -/
import Derived.Test.YtfaekiaegebmbaaAbG
namespace Go.Proofs.Ytfaekiaegebmbaa.Ab
open Go Go.RowKit
set_option linter.unusedSimpArgs false
set_option linter.unusedVariables false
section
variable {m : Mem} {w : World} {as : AS} {a : Act} {P : Program} {k : Nat}

theorem all_mem {zs : List Value} (h : zs.all (·.oneCell') = true) : ∀ y ∈ zs, y.oneCell' = true := by simpa using h

theorem did_pure (hR : Rel m w as a) {o : Oper} {u : Value} {r : AV} (hx : (execOp a.eval o).run P w = .ok (.value u) w) (hr : Rep w m r u) : Did P m w as a k o r [] :=
  ⟨_, u, w, m, hx, .inl rfl, hr, hR.mr, Ext.refl _ _ _, fun _ _ => rfl⟩

theorem made_get {z : Array Value} {n q : Nat} (h : q < n) (hz : 0 < z.size) : (madeCells z n).getD q undef = z.getD (q % z.size) undef := by
  have hlt : q % z.size < z.size := Nat.mod_lt _ hz
  rw [Array.getD_eq_getD_getElem?, madeCells, Array.getElem?_map, Array.getElem?_range]
  simp [h, hlt, Array.getD]

/-- What a map's reader finds. -/
theorem map_find {q : IntKind} {f : Int → Option DV} {es : Array MapEntry} {i : Int} (he : ∀ e ∈ es.toList, ∃ x d, e.key = .int q x ∧ f x = some d ∧ RD w m.I d e.val) (hf : ∀ x d, f x = some d → ∃ e ∈ es.toList, e.key = .int q x) :
    (Instr.findNow (.int q) (.int q i) es.toList 0 = some none ∧ f i = none ∧ ∀ e ∈ es.toList, e.key ≠ .int q i) ∨
    ∃ j e d, Instr.findNow (.int q) (.int q i) es.toList 0 = some (some (j, e.val)) ∧ es[j]? = some e ∧ e.key = .int q i ∧ f i = some d ∧ RD w m.I d e.val := by
  have hks : ∀ x ∈ es.toList, MapKept.IsKey (.int q) x.key := fun e hm => by
    obtain ⟨x, d, h1, _⟩ := he e hm
    rw [h1]; rfl
  rcases MapKept.findNow_spec (d := .int q) (k := .int q i) rfl es.toList 0 hks with ⟨h1, h2⟩ | ⟨j, e, h1, h2, h3⟩
  · refine .inl ⟨h1, ?_, h2⟩
    cases hfi : f i with
    | none => rfl
    | some d =>
      obtain ⟨e, hm, hk⟩ := hf i d hfi
      exact absurd hk (h2 e hm)
  · obtain ⟨x, d, g1, g2, g3⟩ := he e (List.mem_of_getElem? h2)
    rw [h3] at g1
    cases g1
    exact .inr ⟨j, e, d, by simpa using h1, by simpa using h2, h3, g2, g3⟩

theorem mem_modify_map {es : Array MapEntry} {j : Nat} {g : MapEntry → MapEntry} {y : MapEntry} (h : y ∈ (es.modify j g).toList) : (∃ i, i ≠ j ∧ es[i]? = some y) ∨ ∃ e, es[j]? = some e ∧ y = g e := by
  obtain ⟨i, hi⟩ := List.mem_iff_getElem?.1 h
  rw [Array.getElem?_toList, Array.getElem?_modify] at hi
  split at hi
  · rename_i hji
    subst hji
    obtain ⟨e, he, rfl⟩ := Option.map_eq_some_iff.1 hi
    exact .inr ⟨e, he, rfl⟩
  · rename_i hji
    exact .inl ⟨i, fun e => hji e.symm, hi⟩

theorem did_mapUpdate (hR : Rel m w as a) {o : Oper} {t : TypeId} {x y z : Operand} {r : AV} {p : Prop} {set : List (Nat × Option Obj)} (ho : o.op = .mapUpdate t x y z) (h : opD P k as (.mapUpdate t x y z) = some (p, r, set)) (hp : p) : Did P m w as a k o r set := by
  simp only [opD] at h
  split at h
  · rename_i q et n q' i ht hx hy
    split at h
    · rename_i q2 f d hn hd
      cases h
      obtain ⟨rfl, rfl⟩ := hp
      obtain ⟨kt, hu, huk⟩ := mpt_some ht
      have ex := ev_rep hR x
      rw [hx] at ex
      have ey : a.eval y = .int q2 i := rep_v (by have := ev_rep hR y; rw [hy] at this; exact this)
      obtain ⟨d', hd', hrd⟩ : ∃ c, toD as.ob (ev as z) = some c ∧ c = d := by
        unfold toDs at hd
        split at hd
        · rename_i d2 r2 h1 h2
          simp only [Option.some.injEq, List.cons.injEq] at hd
          exact ⟨_, h1, hd.1⟩
        · cases hd
      subst hrd
      have hz := toD_rep hR.mr hd' (ev_rep hR z)
      cases hvx : a.eval x with
      | map A =>
        rw [hvx] at ex
        cases ex with
        | mp _ g hb =>
        obtain ⟨v, hv, g', es, clock, rfl, hh, hst, hI, he, hf⟩ := hR.mr.obs n _ hn
        rw [hb] at hv
        cases hv
        have hki : MapKept.IsKey (.int q2) (.int q2 i) := rfl
        -- the run, and what is in the map then
        obtain ⟨es', clock', hrun, hst', he', hf'⟩ : ∃ es' clock', (Instr.mapUpdate t (.map (some g)) (.int q2 i) (a.eval z)).run P w = .ok () { w with heap := w.heap.setIfInBounds g (.map es' clock') } ∧ MapKept.Stamped es' clock' ∧
            (∀ e ∈ es'.toList, ∃ x d2, e.key = .int q2 x ∧ mset f i d' x = some d2 ∧ RD w m.I d2 e.val) ∧ ∀ x d2, mset f i d' x = some d2 → ∃ e ∈ es'.toList, e.key = .int q2 x := by
          rcases map_find (i := i) he hf with ⟨h1, h2, h3⟩ | ⟨j, e, d2, h1, h2, h3, h4, h5⟩
          · refine ⟨es.push ⟨.int q2 i, a.eval z, clock⟩, clock + 1, ?_, MapKept.stamped_push hst h3, fun e hm => ?_, fun x d2 hx2 => ?_⟩
            · simp [Instr.mapUpdate, run_underlying hu, MapKept.run_getObj_map hh, MapKept.run_checkKey huk hki, MapKept.run_findKey huk h1, MapKept.run_setObj_map _ hh, Result.andThen]
            · simp only [Array.toList_push, List.mem_append, List.mem_singleton] at hm
              rcases hm with hm | rfl
              · obtain ⟨x, d2, g1, g2, g3⟩ := he e hm
                have hne : x ≠ i := fun e1 => h3 e hm (by rw [g1, e1])
                exact ⟨x, d2, g1, by rw [mset_ne hne]; exact g2, g3⟩
              · exact ⟨i, d', rfl, mset_same _ _ _, hz⟩
            · by_cases hxi : x = i
              · subst hxi
                exact ⟨⟨.int q2 x, a.eval z, clock⟩, by simp, rfl⟩
              · rw [mset_ne hxi] at hx2
                obtain ⟨e, hm, hk⟩ := hf x d2 hx2
                exact ⟨e, by simp [hm], hk⟩
          · have hkey : ∀ e', es[j]? = some e' → ({ e' with key := .int q2 i, val := a.eval z } : MapEntry).key = e'.key := fun e' he' => by rw [h2] at he'; cases he'; exact h3.symm
            refine ⟨es.modify j (fun e' => { e' with key := .int q2 i, val := a.eval z }), clock, ?_, MapKept.stamped_modify hst _ _ (fun _ _ => rfl) (fun e' _ he' => hkey e' he'), fun y hm => ?_, fun x d3 hx2 => ?_⟩
            · simp [Instr.mapUpdate, run_underlying hu, MapKept.run_getObj_map hh, MapKept.run_checkKey huk hki, MapKept.run_findKey huk h1, h2, h3, MapKept.run_keyThatStays hki, MapKept.run_setObj_map _ hh, Result.andThen]
            · rcases mem_modify_map hm with ⟨i', hne, hy'⟩ | ⟨e', hj', rfl⟩
              · obtain ⟨x, d3, g1, g2, g3⟩ := he y (List.mem_of_getElem? (by simpa using hy'))
                have hxi : x ≠ i := fun e1 => by
                  have hnd := hst.2.2
                  have hi'l : i' < es.toList.length := by simpa using (Array.getElem?_eq_some_iff.1 hy').1
                  have hjl : j < es.toList.length := by simpa using (Array.getElem?_eq_some_iff.1 h2).1
                  have e2 : (es.toList.map (·.key))[i']? = (es.toList.map (·.key))[j]? := by
                    rw [List.getElem?_map, List.getElem?_map, Array.getElem?_toList, Array.getElem?_toList, hy', h2]
                    simp [g1, h3, e1]
                  exact hne ((List.getElem?_inj (by simpa using hi'l) hnd).1 e2)
                exact ⟨x, d3, g1, by rw [mset_ne hxi]; exact g2, g3⟩
              · exact ⟨i, d', rfl, mset_same _ _ _, hz⟩
            · have hkeys := MapKept.modify_keys j (fun e' => { e' with key := .int q2 i, val := a.eval z }) hkey
              by_cases hxi : x = i
              · subst hxi
                have hm0 : (Value.int q2 x) ∈ es.toList.map (·.key) := List.mem_map.2 ⟨e, List.mem_of_getElem? (by simpa using h2), h3⟩
                rw [← hkeys] at hm0
                obtain ⟨y, hy1, hy2⟩ := List.mem_map.1 hm0
                exact ⟨y, hy1, hy2⟩
              · rw [mset_ne hxi] at hx2
                obtain ⟨e3, hm, hk⟩ := hf x d3 hx2
                have hm0 : (Value.int q2 x) ∈ es.toList.map (·.key) := List.mem_map.2 ⟨e3, hm, hk⟩
                rw [← hkeys] at hm0
                obtain ⟨y, hy1, hy2⟩ := List.mem_map.1 hm0
                exact ⟨y, hy1, hy2⟩
        rw [← hvx, ← ey] at hrun
        have hI' : ∀ b, m.I b → ({ w with heap := w.heap.setIfInBounds g (.map es' clock') } : World).heap[b]? = w.heap[b]? := fun b hb => (MapKept.heap_set hh).2 b (fun e1 => hI (e1 ▸ hb))
        obtain ⟨hm, hE⟩ := set_step (w' := { w with heap := w.heap.setIfInBounds g (.map es' clock') }) (o' := .map q2 (mset f i d')) hR.mr hn rfl hb (fun b _ hne => (MapKept.heap_set hh).2 b (fun e1 => hne (by simp [foot, blk, e1]))) (by simp) rfl rfl rfl
          ⟨g, es', clock', rfl, (MapKept.heap_set hh).1, hst', hI, fun e hm => by
            obtain ⟨x, d2, g1, g2, g3⟩ := he' e hm
            exact ⟨x, d2, g1, g2, g3.ext (fun _ h => h) hI'⟩, hf'⟩ (fun b hb => hb)
        exact ⟨_, undef, _, m, by simp only [execOp, ho, Sem.run_bind, hrun]; rfl, .inr ⟨rfl, rfl⟩, .v _, hm, hE, fun _ _ => rfl⟩
      | _ => rw [hvx] at ex; cases ex
    · cases h
  · cases h

theorem opD_run (hR : Rel m w as a) (hk : m.β k = none) {o : Oper} {r : AV} {p : Prop} {set : List (Nat × Option Obj)} (h : opD P k as o.op = some (p, r, set)) (hp : p) : Did P m w as a k o r set := by
  have E := ev_rep hR
  cases ho : o.op with
  | box t x =>
    rw [ho] at h
    simp only [opD] at h
    split at h
    · rename_i p' cs hcs
      cases h
      obtain ⟨h1, h2, h3⟩ := cellsOf_rep hcs hp (E x)
      exact did_box hR hk (by simp [execOp, ho, Instr.box, newVar, newRow]) h1 h2 h3
    · cases h
  | alloc t =>
    rw [ho] at h
    simp only [opD] at h
    split at h
    · rename_i zs hz
      cases h
      obtain ⟨i, z, hi, hz', rfl⟩ := zer_some hz
      refine did_box (xs := z.cells) hR hk ?_ (by simp) (by simpa using all_mem hp) (fun i c hc => ?_)
      · simp [execOp, ho, Instr.alloc, zeroValue, typeInfo, hi, hz', newVar, newRow]
      · rw [List.getElem?_map, Option.map_eq_some_iff] at hc
        obtain ⟨v, hv, rfl⟩ := hc
        rw [getD_get? (by simpa using hv)]
        exact .v _
    · cases h
  | store t x y =>
    rw [ho] at h
    exact did_store hR ho h hp
  | makeSlice t l c =>
    rw [ho] at h
    simp only [opD] at h
    split at h
    · rename_i e sz kl l' kc c' ht hl hc
      split at h
      · rename_i zs zd sz0 by_ hz hzd hap
        cases h
        obtain ⟨h0, hlc, hb1, hb2, hall⟩ := hp
        obtain ⟨hu, ti, hti, hts⟩ := elt_some ht
        obtain ⟨ti', z, hti', hz', hzs, hpos, hsz0, hby⟩ := apf_some hap
        rw [hti] at hti'
        cases hti'
        obtain ⟨i2, z2, hi2, hz2, rfl⟩ := zer_some hz
        rw [hti] at hi2
        cases hi2
        rw [hz'] at hz2
        cases hz2
        unfold zds at hzd
        rw [hz] at hzd
        cases hzd
        have el := E l
        rw [hl] at el
        have ec := E c
        rw [hc] at ec
        have el' : a.eval l = .int kl l' := rep_v el
        have ec' : a.eval c = .int kc c' := rep_v ec
        have hrun := run_make (P := P) w t e ti z hu hti hz' kl kc l' c' h0 hlc (by rw [hby]; exact hb1) (by simp only [maxLen] at hb2; omega)
        rw [← el', ← ec'] at hrun
        have hlen : (List.replicate l'.toNat (z.cells.toList.map (zdv P e))).length = l'.toNat := List.length_replicate
        have hcc : c'.toNat * ti.size = c'.toNat * z.cells.size := by rw [hzs, hsz0]
        have hx : (execOp a.eval o).run P w = .ok (.value (.slice (some ⟨w.heap.size, 0, none⟩) (List.replicate l'.toNat (z.cells.toList.map (zdv P e))).length c'.toNat)) (w.alloc (.cells (madeCells z.cells (c'.toNat * ti.size)) e)) := by
          rw [hlen]; simp only [execOp, ho, Sem.run_bind, hrun]; rfl
        have hD := did_row (sz := sz) hR hk rfl rfl rfl rfl hx (by
            intro r hr; rw [List.eq_of_mem_replicate hr, List.length_map, Array.length_toList]; omega) (by rw [hlen]; omega) (by omega) (by rw [size_madeCells, hts]) (fun i hi => by
            rw [hlen] at hi
            have h2 : l'.toNat * sz ≤ c'.toNat * sz := Nat.mul_le_mul_right _ (by omega)
            rw [made_get (by rw [hts]; omega) (by omega)]
            exact all_mem hall _ (by simpa using mem_getD (Nat.mod_lt _ (by omega)))) (fun i r j d hr hd => by
            have hr' := List.eq_of_mem_replicate (List.mem_of_getElem? hr)
            subst hr'
            have hi : i < l'.toNat := by
              rcases Nat.lt_or_ge i l'.toNat with h | h
              · exact h
              · rw [List.getElem?_eq_none (by simpa using h)] at hr; cases hr
            rw [List.getElem?_map, Option.map_eq_some_iff] at hd
            obtain ⟨v, hv, rfl⟩ := hd
            have hj : j < sz := by
              rcases Nat.lt_or_ge j z.cells.toList.length with h | h
              · simp at h; omega
              · rw [List.getElem?_eq_none h] at hv; cases hv
            have h2 : l'.toNat * sz ≤ c'.toNat * sz := Nat.mul_le_mul_right _ (by omega)
            have hb := row_bound hi hj
            have hzz : z.cells.size = sz := by omega
            rw [made_get (by rw [hts]; omega) (by omega), hzz, Nat.mul_comm i sz, Nat.mul_add_mod, Nat.mod_eq_of_lt hj, getD_get? (by simpa using hv)]
            exact zdv_rd _)
        rw [hlen] at hD
        exact hD
      · cases h
    · cases h
  | makeMap t r' =>
    rw [ho] at h
    cases r' with
    | some _ => simp [opD] at h
    | none =>
    simp only [opD] at h
    split at h
    · rename_i q et ht
      cases h
      refine ⟨_, _, _, m.bind k (.map (some w.heap.size)), by simp only [execOp, ho, Instr.makeMap, Option.map_none]; rfl, .inl rfl, .mp _ _ (by simp [Mem.bind, upd]), ?_⟩
      obtain ⟨h2, h3⟩ := new_step (w' := w.alloc (.map #[] 0)) (v := .map (some w.heap.size)) (o := .map q fun _ => none) hR.mr hk (fun b hb => heap_alloc_old w _ hb) (by simp) rfl rfl rfl
        ⟨w.heap.size, #[], 0, rfl, heap_alloc_new w _, MapKept.stamped_empty 0, fun hI => by have := hR.mr.imm _ hI; omega, fun e he => by simp at he, fun x d hx => by cases hx⟩
        (fun b hb => by simp [foot, blk] at hb; omega)
      exact ⟨h2, h3, fun n hn => by simp [Mem.bind, upd, hn]⟩
    · cases h
  | mapUpdate t x y z =>
    rw [ho] at h
    exact did_mapUpdate hR ho h hp
  | lookup t x y ok =>
    rw [ho] at h
    simp only [opD] at h
    split at h
    · rename_i q et n q' i ht hx hy
      split at h
      · rename_i q2 f z' hn hz
        cases h
        obtain ⟨rfl, rfl⟩ := hp
        obtain ⟨kt, hu, huk⟩ := mpt_some ht
        obtain ⟨ti, hti, hz'⟩ := Option.bind_eq_some_iff.1 hz
        have ex := E x
        rw [hx] at ex
        have ey : a.eval y = .int q2 i := rep_v (by have := E y; rw [hy] at this; exact this)
        cases hvx : a.eval x with
        | map A =>
          rw [hvx] at ex
          cases ex with
          | mp _ g hb =>
          obtain ⟨v, hv, g', es, clock, rfl, hh, hst, hI, he, hf⟩ := hR.mr.obs n _ hn
          rw [hb] at hv
          cases hv
          have hki : MapKept.IsKey (.int q2) (.int q2 i) := rfl
          have hzr : (zeroValue et).run P w = .ok z' w := by simp [zeroValue, typeInfo, hti, hz']
          rcases map_find (i := i) he hf with ⟨h1, h2, h3⟩ | ⟨j, e, d2, h1, h2, h3, h4, h5⟩
          · have hrun : (Instr.lookup t (a.eval x) (a.eval y) ok).run P w = .ok (if ok then .tuple #[z', .bool false] else z') w := by
              rw [hvx, ey]
              simp [Instr.lookup, run_underlying hu, MapKept.run_getObj_map hh, MapKept.run_checkKey huk hki, MapKept.run_findKey huk h1, hzr, Result.andThen]
            rw [h2]
            refine did_pure hR (by simp only [execOp, ho, Sem.run_bind, hrun]; rfl) ?_
            cases ok with
            | false => exact .v _
            | true => exact .tup _ _ rfl (fun j c hc => by
                match j, hc with
                | 0, hc => cases hc; exact .v _
                | 1, hc => cases hc; exact .v _)
          · have hrun : (Instr.lookup t (a.eval x) (a.eval y) ok).run P w = .ok (if ok then .tuple #[e.val, .bool true] else e.val) w := by
              rw [hvx, ey]
              simp [Instr.lookup, run_underlying hu, MapKept.run_getObj_map hh, MapKept.run_checkKey huk hki, MapKept.run_findKey huk h1, Result.andThen]
            rw [h4]
            refine did_pure hR (by simp only [execOp, ho, Sem.run_bind, hrun]; rfl) ?_
            cases ok with
            | false => exact h5.rep
            | true => exact .tup _ _ rfl (fun j c hc => by
                match j, hc with
                | 0, hc => cases hc; exact h5.rep
                | 1, hc => cases hc; exact .v _)
        | _ => rw [hvx] at ex; cases ex
      · cases h
    · cases h
  | buildSlice t len parts =>
    rw [ho] at h
    simp only [opD] at h
    split at h
    · rename_i e sz ht
      split at h
      · rename_i zs ap hz hap
        split at h
        · rename_i p' cs hfill
          split at h
          · rename_i ds hds
            cases h
            obtain ⟨hp', hsmall, hall⟩ := hp
            obtain ⟨hu, ti, hti, hts⟩ := elt_some ht
            obtain ⟨sz0, by_⟩ := ap
            obtain ⟨ti', z, hti', hz', hzs, hpos, hsz0, hby⟩ := apf_some hap
            rw [hti] at hti'
            cases hti'
            obtain ⟨i2, z2, hi2, hz2, rfl⟩ := zer_some hz
            rw [hti] at hi2
            cases hi2
            rw [hz'] at hz2
            cases hz2
            have hzz : z.cells.size = sz := by omega
            have hfl : ((List.replicate len (z.cells.toList.map AV.v)).flatten).length = len * sz := by simp [hzz]
            obtain ⟨cur, hf, g1, g2, g3, g4⟩ := aFill_run (m := m) (w := w) (cur := madeCells z.cells (len * sz)) (vs := parts.toList.map fun q => (q.1, a.eval q.2)) hfill hp' (by rw [hfl, size_madeCells])
              (fun y hy => by
                obtain ⟨q, hq⟩ := Array.mem_iff_getElem?.1 hy
                have hlt : q < len * sz := by
                  rcases Nat.lt_or_ge q (len * sz) with h | h
                  · exact h
                  · rw [Array.getElem?_eq_none (by rw [size_madeCells]; exact h)] at hq; cases hq
                rw [← getD_get? hq, made_get hlt (by omega)]
                exact all_mem hall _ (by simpa using mem_getD (Nat.mod_lt _ (by omega))))
              (fun i c hc => by
                have hlt : i < len * sz := by
                  rcases Nat.lt_or_ge i (len * sz) with h | h
                  · exact h
                  · rw [List.getElem?_eq_none (by rw [hfl]; exact h)] at hc; cases hc
                rw [flat_get _ _ _ (by simpa [hzz] using hlt), List.getElem?_map, Option.map_eq_some_iff] at hc
                obtain ⟨v, hv, rfl⟩ := hc
                rw [made_get hlt (by omega)]
                simp only [List.length_map, Array.length_toList] at hv
                rw [getD_get? (by simpa using hv)]
                exact .v _) (by simp) (fun i q hq => by
                rw [List.getElem?_map, Option.map_eq_some_iff] at hq
                obtain ⟨q', hq', rfl⟩ := hq
                exact ⟨a.eval q'.2, by simp [List.getElem?_map, hq'], E _⟩)
            obtain ⟨hdl, hdg⟩ := toDs_get hds
            have hcl : (chunks sz len ds).length = len := chunks_length _ _ _
            have hdlen : ds.length = len * sz := by omega
            have hx : (execOp a.eval o).run P w = .ok (.value (.slice (some ⟨w.heap.size, 0, none⟩) (chunks sz len ds).length len)) (w.alloc (.cells cur e)) := by
              rw [hcl]
              have hf' : Instr.fill (fun i => some (i * ti.size, ti.size)) (madeCells z.cells (len * ti.size)) (parts.map fun (i, x) => (i, a.eval x)).toList = some cur := by
                rw [hts]; rw [Array.toList_map]; exact hf
              by_cases h0 : len * ti.size = 0
              · rw [h0] at hf'
                have hmk : madeCells z.cells 0 = #[] := Array.eq_empty_of_size_eq_zero (size_madeCells _ _)
                rw [hmk] at hf'
                simp only [Array.toList_map] at hf'
                have e0 : ∀ f : Nat → Value, Array.map f (Array.range 0) = #[] := fun f => by apply Array.ext'; simp
                simp [execOp, ho, Instr.buildSlice, run_underlying hu, run_size_of hti, h0, hf', newRow, e0]
              · have hsm : ¬ (16777216 < len * ti.size) := by rw [hts]; omega
                simp only [madeCells, Array.toList_map] at hf'
                simp [execOp, ho, Instr.buildSlice, run_underlying hu, run_size_of hti, zeroValue, typeInfo, hti, hz', h0, hsm, hf', newRow]
            have hD := did_row (sz := sz) hR hk rfl rfl rfl rfl hx (by
                intro r hr
                obtain ⟨i, hi⟩ := List.mem_iff_getElem?.1 hr
                have hlt : i < len := by
                  rcases Nat.lt_or_ge i len with h | h
                  · exact h
                  · rw [List.getElem?_eq_none (by rw [hcl]; exact h)] at hi; cases hi
                rw [chunks_get _ _ _ _ _ hi]
                have : (i + 1) * sz ≤ len * sz := Nat.mul_le_mul_right _ hlt
                rw [Nat.add_mul] at this
                simp; omega) (by omega) (by
                rcases Nat.eq_zero_or_pos sz with h | h
                · omega
                · have := Nat.le_mul_of_pos_right len h
                  simp only [maxLen]; omega) (by omega) (fun i hi => by
                rw [hcl] at hi
                exact g3 _ (mem_getD (by omega))) (fun i r j d hr hd => by
                have hr' := chunks_get _ _ _ _ _ hr
                subst hr'
                rw [List.getElem?_take] at hd
                split at hd
                · rw [List.getElem?_drop] at hd
                  obtain ⟨c, hc, hcd⟩ := hdg _ _ hd
                  exact toD_rep hR.mr hcd (g4 _ _ hc)
                · cases hd)
            rw [hcl] at hD
            exact hD
          · cases h
        · cases h
      · cases h
    · cases h
  | build t parts =>
    rw [ho] at h
    simp only [opD] at h
    have fin : ∀ (zs : List Value) (place : Nat → Option (Nat × Nat)) (p' : Prop) (cs : List AV), zer P t = some zs → aFill place (zs.map AV.v) (parts.toList.map fun q => (q.1, ev as q.2)) = some (p', cs) → p' → zs.all (·.oneCell') = true →
        (∀ i z cur, P.info? t = some i → i.zero = some z → Instr.fill place z.cells (parts.map fun (i, x) => (i, a.eval x)).toList = some cur → P.built t (parts.map fun (i, x) => (i, a.eval x)).toList = some cur) → Did P m w as a k o (.agg cs) [] := by
      intro zs place p' cs hz hfill hp' hall hb
      obtain ⟨i, z, hi, hz', rfl⟩ := zer_some hz
      obtain ⟨cur, hf, g1, g2, g3, g4⟩ := aFill_run (m := m) (w := w) (cur := z.cells) (vs := parts.toList.map fun q => (q.1, a.eval q.2)) hfill hp' (by simp) (by simpa using all_mem hall)
        (fun i c hc => by
          rw [List.getElem?_map, Option.map_eq_some_iff] at hc
          obtain ⟨v, hv, rfl⟩ := hc
          rw [getD_get? (by simpa using hv)]
          exact .v _) (by simp) (fun i q hq => by
          rw [List.getElem?_map, Option.map_eq_some_iff] at hq
          obtain ⟨q', hq', rfl⟩ := hq
          exact ⟨a.eval q'.2, by simp [List.getElem?_map, hq'], E _⟩)
      have hrun := run_build w t (parts.map fun (i, x) => (i, a.eval x)) cur (hb i z cur hi hz' (by rw [Array.toList_map]; exact hf))
      exact did_pure hR (by simp only [execOp, ho, Sem.run_bind, hrun]; rfl) (.agg _ _ g1 g3 g4)
    split at h
    · rename_i zs pl x hz hst
      split at h
      · rename_i p' cs hfill
        cases h
        refine fin _ _ p' cs hz hfill hp.1 hp.2 (fun i z cur hi hz' hf => ?_)
        unfold stf at hst
        split at hst
        · rename_i fields hu
          simp only [Program.built, hi, hu, hz', hst]
          simpa using hf
        · cases hst
      · cases h
    · rename_i zs n e sz hz hst har
      split at h
      · rename_i p' cs hfill
        cases h
        refine fin _ _ p' cs hz hfill hp.1 hp.2 (fun i z cur hi hz' hf => ?_)
        obtain ⟨hu, ti, hti, hts⟩ := arr_some har
        simp only [Program.built, hi, hu, hz', hti, hts]
        exact hf
      · cases h
    · cases h
  | slice t x lo hi mx =>
    rw [ho] at h
    cases mx with
    | some _ => simp [opD] at h
    | none =>
      simp only [opD] at h
      split at h
      · rename_i n len hev
        split at h
        · rename_i e sz rows hn
          split at h
          · rename_i p' r' hps
            cases h
            have ex := E x
            rw [hev] at ex
            generalize hvx : a.eval x = vx at ex
            have hrd : Rep w m (.sl sz rows) vx := by
              cases ex with
              | ob _ _ A c hb =>
              obtain ⟨v, hv, hat⟩ := hR.mr.obs _ _ hn
              rw [hb] at hv
              cases hv
              exact .sl _ _ _ (row_RD hat)
            obtain ⟨u, hu, hr⟩ := pSlice_run hps hp hrd (vlo := lo.map a.eval) (vhi := hi.map a.eval) (fun c hc => by
              obtain ⟨z, rfl, rfl⟩ := Option.map_eq_some_iff.1 hc
              exact ⟨_, rfl, E z⟩) (fun hn => by simpa using hn) (fun c hc => by
              obtain ⟨z, rfl, rfl⟩ := Option.map_eq_some_iff.1 hc
              exact ⟨_, rfl, E z⟩) (fun hn => by simpa using hn)
            exact did_pure hR (by simp only [execOp, ho, Option.map_none, hvx]; rw [Sem.run_bind, hu]; rfl) hr
          · cases h
        · cases h
      · cases h
  | call c =>
    rw [ho] at h
    cases hc : c.callee with
    | builtin b =>
      cases b with
      | append => exact did_append hR hk ho hc h hp
      | _ => simp [opD, hc] at h
    | _ => simp [opD, hc] at h
  | _ => rw [ho] at h; simp [opD] at h

end
end Go.Proofs.Ytfaekiaegebmbaa.Ab
