/- All operations at once; an operation's step in the abstract state. -/
import Derived.Test.YtbhpaiieoncbkaaAbG
namespace Go.Proofs.Ytbhpaiieoncbkaa.Ab
open Go Go.RowKit
set_option linter.unusedSimpArgs false
set_option linter.unusedVariables false
section
variable {m : Mem} {w : World} {as : AS} {a : Act} {P : Program} {k : Nat}

theorem all_mem {zs : List Value} (h : zs.all (·.oneCell') = true) : ∀ y ∈ zs, y.oneCell' = true := by simpa using h

theorem did_pure (hR : Rel m w as a) {o : Oper} {u : Value} {r : AV} (hx : (execOp a.eval o).run P w = .ok (.value u) w) (hr : Rep w m r u) : Did P m w as a k o r [] :=
  ⟨_, u, w, m, hx, .inl rfl, hr, hR.mr, Ext.refl _ _ _, fun _ _ => rfl⟩

theorem made_get {z : Array Value} {n q : Nat} (h : q < n) (hz : 0 < z.size) : (madeCells z n).getD q undef = z.getD (q % z.size) undef := by
  have hlt : q % z.size < z.size := Nat.mod_lt _ hz
  rw [Array.getD_eq_getD_getElem?, madeCells, Array.getElem?_map, Array.getElem?_range]
  simp [h, hlt, Array.getD]

theorem opD_run (hR : Rel m w as a) (hk : m.β k = none) {o : Oper} {r : AV} {p : Prop} {set : List (Nat × Option Obj)} (h : opD P k as o.op = some (p, r, set)) (hp : p) : Did P m w as a k o r set := by
  have E := ev_rep hR
  cases ho : o.op with
  | box t x =>
    rw [ho] at h
    simp only [opD] at h
    split at h
    · rename_i p' cs hcs
      cases h
      obtain ⟨h1, h2, h3⟩ := cellsOf_rep hcs hp (E x)
      exact did_box hR hk (by simp [execOp, ho, Instr.box, newVar, newRow]) h1 h2 h3
    · cases h
  | alloc t =>
    rw [ho] at h
    simp only [opD] at h
    split at h
    · rename_i zs hz
      cases h
      obtain ⟨i, z, hi, hz', rfl⟩ := zer_some hz
      refine did_box (xs := z.cells) hR hk ?_ (by simp) (by simpa using all_mem hp) (fun i c hc => ?_)
      · simp [execOp, ho, Instr.alloc, zeroValue, typeInfo, hi, hz', newVar, newRow]
      · rw [List.getElem?_map, Option.map_eq_some_iff] at hc
        obtain ⟨v, hv, rfl⟩ := hc
        rw [getD_get? (by simpa using hv)]
        exact .v _
    · cases h
  | store t x y =>
    rw [ho] at h
    exact did_store hR ho h hp
  | makeSlice t l c =>
    rw [ho] at h
    simp only [opD] at h
    split at h
    · rename_i e sz kl l' kc c' ht hl hc
      split at h
      · rename_i zs sz0 by_ hz hap
        cases h
        obtain ⟨h0, hlc, hb1, hb2, hall⟩ := hp
        obtain ⟨hu, ti, hti, hts⟩ := elt_some ht
        obtain ⟨ti', z, hti', hz', hzs, hpos, hsz0, hby⟩ := apf_some hap
        rw [hti] at hti'
        cases hti'
        obtain ⟨i2, z2, hi2, hz2, rfl⟩ := zer_some hz
        rw [hti] at hi2
        cases hi2
        rw [hz'] at hz2
        cases hz2
        have el := E l
        rw [hl] at el
        have ec := E c
        rw [hc] at ec
        have el' : a.eval l = .int kl l' := rep_v el
        have ec' : a.eval c = .int kc c' := rep_v ec
        have hrun := run_make (P := P) w t e ti z hu hti hz' kl kc l' c' h0 hlc (by rw [hby]; exact hb1) (by simp only [maxLen] at hb2; omega)
        rw [← el', ← ec'] at hrun
        have hlen : (List.replicate l'.toNat (z.cells.toList.map DV.v)).length = l'.toNat := List.length_replicate
        have hcc : c'.toNat * ti.size = c'.toNat * z.cells.size := by rw [hzs, hsz0]
        have hx : (execOp a.eval o).run P w = .ok (.value (.slice (some ⟨w.heap.size, 0, none⟩) (List.replicate l'.toNat (z.cells.toList.map DV.v)).length c'.toNat)) (w.alloc (.cells (madeCells z.cells (c'.toNat * ti.size)) e)) := by
          rw [hlen]; simp only [execOp, ho, Sem.run_bind, hrun]; rfl
        have hD := did_row (sz := sz) hR hk rfl rfl rfl rfl hx (by
            intro r hr; rw [List.eq_of_mem_replicate hr, List.length_map, Array.length_toList]; omega) (by rw [hlen]; omega) (by omega) (by rw [size_madeCells, hts]) (fun i hi => by
            rw [hlen] at hi
            have h2 : l'.toNat * sz ≤ c'.toNat * sz := Nat.mul_le_mul_right _ (by omega)
            rw [made_get (by rw [hts]; omega) (by omega)]
            exact all_mem hall _ (by simpa using mem_getD (Nat.mod_lt _ (by omega)))) (fun i r j d hr hd => by
            have hr' := List.eq_of_mem_replicate (List.mem_of_getElem? hr)
            subst hr'
            have hi : i < l'.toNat := by
              rcases Nat.lt_or_ge i l'.toNat with h | h
              · exact h
              · rw [List.getElem?_eq_none (by simpa using h)] at hr; cases hr
            rw [List.getElem?_map, Option.map_eq_some_iff] at hd
            obtain ⟨v, hv, rfl⟩ := hd
            have hj : j < sz := by
              rcases Nat.lt_or_ge j z.cells.toList.length with h | h
              · simp at h; omega
              · rw [List.getElem?_eq_none h] at hv; cases hv
            have h2 : l'.toNat * sz ≤ c'.toNat * sz := Nat.mul_le_mul_right _ (by omega)
            have hb := row_bound hi hj
            have hzz : z.cells.size = sz := by omega
            rw [made_get (by rw [hts]; omega) (by omega), hzz, Nat.mul_comm i sz, Nat.mul_add_mod, Nat.mod_eq_of_lt hj, getD_get? (by simpa using hv)]
            exact .v _)
        rw [hlen] at hD
        exact hD
      · cases h
    · cases h
  | buildSlice t len parts =>
    rw [ho] at h
    simp only [opD] at h
    split at h
    · rename_i e sz ht
      split at h
      · rename_i zs ap hz hap
        split at h
        · rename_i p' cs hfill
          split at h
          · rename_i ds hds
            cases h
            obtain ⟨hp', hsmall, hall⟩ := hp
            obtain ⟨hu, ti, hti, hts⟩ := elt_some ht
            obtain ⟨sz0, by_⟩ := ap
            obtain ⟨ti', z, hti', hz', hzs, hpos, hsz0, hby⟩ := apf_some hap
            rw [hti] at hti'
            cases hti'
            obtain ⟨i2, z2, hi2, hz2, rfl⟩ := zer_some hz
            rw [hti] at hi2
            cases hi2
            rw [hz'] at hz2
            cases hz2
            have hzz : z.cells.size = sz := by omega
            have hfl : ((List.replicate len (z.cells.toList.map AV.v)).flatten).length = len * sz := by simp [hzz]
            obtain ⟨cur, hf, g1, g2, g3, g4⟩ := aFill_run (m := m) (w := w) (cur := madeCells z.cells (len * sz)) (vs := parts.toList.map fun q => (q.1, a.eval q.2)) hfill hp' (by rw [hfl, size_madeCells])
              (fun y hy => by
                obtain ⟨q, hq⟩ := Array.mem_iff_getElem?.1 hy
                have hlt : q < len * sz := by
                  rcases Nat.lt_or_ge q (len * sz) with h | h
                  · exact h
                  · rw [Array.getElem?_eq_none (by rw [size_madeCells]; exact h)] at hq; cases hq
                rw [← getD_get? hq, made_get hlt (by omega)]
                exact all_mem hall _ (by simpa using mem_getD (Nat.mod_lt _ (by omega))))
              (fun i c hc => by
                have hlt : i < len * sz := by
                  rcases Nat.lt_or_ge i (len * sz) with h | h
                  · exact h
                  · rw [List.getElem?_eq_none (by rw [hfl]; exact h)] at hc; cases hc
                rw [flat_get _ _ _ (by simpa [hzz] using hlt), List.getElem?_map, Option.map_eq_some_iff] at hc
                obtain ⟨v, hv, rfl⟩ := hc
                rw [made_get hlt (by omega)]
                simp only [List.length_map, Array.length_toList] at hv
                rw [getD_get? (by simpa using hv)]
                exact .v _) (by simp) (fun i q hq => by
                rw [List.getElem?_map, Option.map_eq_some_iff] at hq
                obtain ⟨q', hq', rfl⟩ := hq
                exact ⟨a.eval q'.2, by simp [List.getElem?_map, hq'], E _⟩)
            obtain ⟨hdl, hdg⟩ := toDs_get hds
            have hcl : (chunks sz len ds).length = len := chunks_length _ _ _
            have hdlen : ds.length = len * sz := by omega
            have hx : (execOp a.eval o).run P w = .ok (.value (.slice (some ⟨w.heap.size, 0, none⟩) (chunks sz len ds).length len)) (w.alloc (.cells cur e)) := by
              rw [hcl]
              have hf' : Instr.fill (fun i => some (i * ti.size, ti.size)) (madeCells z.cells (len * ti.size)) (parts.map fun (i, x) => (i, a.eval x)).toList = some cur := by
                rw [hts]; rw [Array.toList_map]; exact hf
              by_cases h0 : len * ti.size = 0
              · rw [h0] at hf'
                have hmk : madeCells z.cells 0 = #[] := Array.eq_empty_of_size_eq_zero (size_madeCells _ _)
                rw [hmk] at hf'
                simp only [Array.toList_map] at hf'
                have e0 : ∀ f : Nat → Value, Array.map f (Array.range 0) = #[] := fun f => by apply Array.ext'; simp
                simp [execOp, ho, Instr.buildSlice, run_underlying hu, run_size_of hti, h0, hf', newRow, e0]
              · have hsm : ¬ (16777216 < len * ti.size) := by rw [hts]; omega
                simp only [madeCells, Array.toList_map] at hf'
                simp [execOp, ho, Instr.buildSlice, run_underlying hu, run_size_of hti, zeroValue, typeInfo, hti, hz', h0, hsm, hf', newRow]
            have hD := did_row (sz := sz) hR hk rfl rfl rfl rfl hx (by
                intro r hr
                obtain ⟨i, hi⟩ := List.mem_iff_getElem?.1 hr
                have hlt : i < len := by
                  rcases Nat.lt_or_ge i len with h | h
                  · exact h
                  · rw [List.getElem?_eq_none (by rw [hcl]; exact h)] at hi; cases hi
                rw [chunks_get _ _ _ _ _ hi]
                have : (i + 1) * sz ≤ len * sz := Nat.mul_le_mul_right _ hlt
                rw [Nat.add_mul] at this
                simp; omega) (by omega) (by
                rcases Nat.eq_zero_or_pos sz with h | h
                · omega
                · have := Nat.le_mul_of_pos_right len h
                  simp only [maxLen]; omega) (by omega) (fun i hi => by
                rw [hcl] at hi
                exact g3 _ (mem_getD (by omega))) (fun i r j d hr hd => by
                have hr' := chunks_get _ _ _ _ _ hr
                subst hr'
                rw [List.getElem?_take] at hd
                split at hd
                · rw [List.getElem?_drop] at hd
                  obtain ⟨c, hc, hcd⟩ := hdg _ _ hd
                  exact toD_rep hR.mr hcd (g4 _ _ hc)
                · cases hd)
            rw [hcl] at hD
            exact hD
          · cases h
        · cases h
      · cases h
    · cases h
  | build t parts =>
    rw [ho] at h
    simp only [opD] at h
    have fin : ∀ (zs : List Value) (place : Nat → Option (Nat × Nat)) (p' : Prop) (cs : List AV), zer P t = some zs → aFill place (zs.map AV.v) (parts.toList.map fun q => (q.1, ev as q.2)) = some (p', cs) → p' → zs.all (·.oneCell') = true →
        (∀ i z cur, P.info? t = some i → i.zero = some z → Instr.fill place z.cells (parts.map fun (i, x) => (i, a.eval x)).toList = some cur → P.built t (parts.map fun (i, x) => (i, a.eval x)).toList = some cur) → Did P m w as a k o (.agg cs) [] := by
      intro zs place p' cs hz hfill hp' hall hb
      obtain ⟨i, z, hi, hz', rfl⟩ := zer_some hz
      obtain ⟨cur, hf, g1, g2, g3, g4⟩ := aFill_run (m := m) (w := w) (cur := z.cells) (vs := parts.toList.map fun q => (q.1, a.eval q.2)) hfill hp' (by simp) (by simpa using all_mem hall)
        (fun i c hc => by
          rw [List.getElem?_map, Option.map_eq_some_iff] at hc
          obtain ⟨v, hv, rfl⟩ := hc
          rw [getD_get? (by simpa using hv)]
          exact .v _) (by simp) (fun i q hq => by
          rw [List.getElem?_map, Option.map_eq_some_iff] at hq
          obtain ⟨q', hq', rfl⟩ := hq
          exact ⟨a.eval q'.2, by simp [List.getElem?_map, hq'], E _⟩)
      have hrun := run_build w t (parts.map fun (i, x) => (i, a.eval x)) cur (hb i z cur hi hz' (by rw [Array.toList_map]; exact hf))
      exact did_pure hR (by simp only [execOp, ho, Sem.run_bind, hrun]; rfl) (.agg _ _ g1 g3 g4)
    split at h
    · rename_i zs pl x hz hst
      split at h
      · rename_i p' cs hfill
        cases h
        refine fin _ _ p' cs hz hfill hp.1 hp.2 (fun i z cur hi hz' hf => ?_)
        unfold stf at hst
        split at hst
        · rename_i fields hu
          simp only [Program.built, hi, hu, hz', hst]
          simpa using hf
        · cases hst
      · cases h
    · rename_i zs n e sz hz hst har
      split at h
      · rename_i p' cs hfill
        cases h
        refine fin _ _ p' cs hz hfill hp.1 hp.2 (fun i z cur hi hz' hf => ?_)
        obtain ⟨hu, ti, hti, hts⟩ := arr_some har
        simp only [Program.built, hi, hu, hz', hti, hts]
        exact hf
      · cases h
    · cases h
  | slice t x lo hi mx =>
    rw [ho] at h
    cases mx with
    | some _ => simp [opD] at h
    | none =>
      simp only [opD] at h
      split at h
      · rename_i n len hev
        split at h
        · rename_i e sz rows hn
          split at h
          · rename_i p' r' hps
            cases h
            have ex := E x
            rw [hev] at ex
            generalize hvx : a.eval x = vx at ex
            have hrd : Rep w m (.sl sz rows) vx := by
              cases ex with
              | ob _ _ A c hb =>
              obtain ⟨v, hv, hat⟩ := hR.mr.obs _ _ hn
              rw [hb] at hv
              cases hv
              exact .sl _ _ _ (row_RD hat)
            obtain ⟨u, hu, hr⟩ := pSlice_run hps hp hrd (vlo := lo.map a.eval) (vhi := hi.map a.eval) (fun c hc => by
              obtain ⟨z, rfl, rfl⟩ := Option.map_eq_some_iff.1 hc
              exact ⟨_, rfl, E z⟩) (fun hn => by simpa using hn) (fun c hc => by
              obtain ⟨z, rfl, rfl⟩ := Option.map_eq_some_iff.1 hc
              exact ⟨_, rfl, E z⟩) (fun hn => by simpa using hn)
            exact did_pure hR (by simp only [execOp, ho, Option.map_none, hvx]; rw [Sem.run_bind, hu]; rfl) hr
          · cases h
        · cases h
      · cases h
  | call c =>
    rw [ho] at h
    cases hc : c.callee with
    | builtin b =>
      cases b with
      | append => exact did_append hR hk ho hc h hp
      | _ => simp [opD, hc] at h
    | _ => simp [opD, hc] at h
  | _ => rw [ho] at h; simp [opD] at h

end
end Go.Proofs.Ytbhpaiieoncbkaa.Ab
