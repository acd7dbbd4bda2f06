/- Regions whose order is drawn: every order comes to what the text's order comes to. -/
import Derived.Test.YtfaekiaegebmbaaAbJ
import Derived.Orders
namespace Go.Proofs.Ytfaekiaegebmbaa.Ab
open Go Go.RowKit
set_option linter.unusedSimpArgs false
set_option linter.unusedVariables false

section
variable {P : Program} {eq : TypeId → Option (List Value)} {as as' : AS}

theorem pLoad_congr {t : TypeId} {x : AV} (h : ∀ n ∈ idsOf x, as'.ob n = as.ob n) : pLoad P as' t x = pLoad P as t x := by
  unfold pLoad
  split
  · rfl
  · split
    · rw [h _ (by simp [idsOf, idA, id1])]
    · rfl
    · rw [h _ (by simp [idsOf, idA, id1])]
    · rfl
theorem pIndexAddr_congr {t : TypeId} {x y : AV} (h : ∀ n ∈ idsOf x, as'.ob n = as.ob n) : pIndexAddr P as' t x y = pIndexAddr P as t x y := by
  unfold pIndexAddr
  split
  · split
    · rfl
    · rw [h _ (by simp [idsOf, idA, id1])]
    all_goals rfl
  · rfl

theorem evs_congr {l : List Operand} (h : ∀ x ∈ l, ev as' x = ev as x) : evs as' l = evs as l := by
  unfold evs
  exact List.map_congr_left h

theorem pureOp_congr {o : Op} (h : ∀ x ∈ o.operands.toList, ev as' x = ev as x) (hf : ∀ n ∈ fpt as o, as'.ob n = as.ob n) : pureOp P eq as' o = pureOp P eq as o := by
  have hx : still o = false → ∀ x, x ∈ o.operands.toList → ∀ n ∈ idsOf (ev as x), as'.ob n = as.ob n := fun hs x hx n hn => hf n (fpt_get hs hx hn)
  cases o with
  | move x => simp [pureOp, h x (by simp [Op.operands])]
  | assign x => simp [pureOp, h x (by simp [Op.operands])]
  | pick c a b => simp only [pureOp, h c (by simp [Op.operands]), h a (by simp [Op.operands]), h b (by simp [Op.operands])]
  | nilCheck x => simp [pureOp, h x (by simp [Op.operands])]
  | binOp op t x y t' => simp only [pureOp, h x (by simp [Op.operands]), h y (by simp [Op.operands])]
  | unOp op t x => simp [pureOp, h x (by simp [Op.operands])]
  | convert s t x => simp [pureOp, h x (by simp [Op.operands])]
  | load t x => simp only [pureOp, h x (by simp [Op.operands]), pLoad_congr (hx rfl x (by simp [Op.operands]))]
  | fieldAddr t x k => simp only [pureOp, h x (by simp [Op.operands])]
  | field t x k => simp only [pureOp, h x (by simp [Op.operands])]
  | indexAddr t x y => simp only [pureOp, h x (by simp [Op.operands]), h y (by simp [Op.operands]), pIndexAddr_congr (hx rfl x (by simp [Op.operands]))]
  | index t x y => simp only [pureOp, h x (by simp [Op.operands]), h y (by simp [Op.operands])]
  | extract x k => simp only [pureOp, h x (by simp [Op.operands])]
  | makeFunc fn first cap =>
    cases fn with
    | func g => simp only [pureOp, evs_congr (as := as) (as' := as') (l := cap.toList) (fun x hx => h x (by simp [Op.operands] at hx ⊢; exact .inr hx)), evs_congr (as := as) (as' := as') (l := first.toList) (fun x hx => h x (by simp [Op.operands] at hx ⊢; exact .inl hx))]
    | _ => rfl
  | slice t x lo hi mx =>
    cases mx with
    | some _ => rfl
    | none =>
      have h1 : lo.map (ev as') = lo.map (ev as) := by cases lo with | none => rfl | some l => simp [h l (by simp [Op.operands])]
      have h2 : hi.map (ev as') = hi.map (ev as) := by cases hi with | none => rfl | some l => simp [h l (by simp [Op.operands])]
      simp only [pureOp, h x (by simp [Op.operands]), h1, h2]
  | call c =>
    have ha : ∀ x ∈ c.args.toList, ev as' x = ev as x := fun x hx => h x (by simp [Op.operands, Call.operands] at hx ⊢; exact .inr hx)
    simp only [pureOp]
    split
    · split
      · rename_i x t e1 e2
        rw [ha x (by rw [e1]; simp)]
      · rfl
    · split
      · rename_i x t e1 e2
        rw [ha x (by rw [e1]; simp)]
      · rfl
    · rw [evs_congr ha]
    · rw [evs_congr ha]
    · rfl
  | _ => rfl

theorem fm_congr {α β : Type} {f g : α → List β} : ∀ {l : List α}, (∀ x ∈ l, f x = g x) → l.flatMap f = l.flatMap g
  | [], _ => rfl
  | a :: l, h => by rw [List.flatMap_cons, List.flatMap_cons, h a (by simp), fm_congr fun x hx => h x (by simp [hx])]

theorem toD_congr {ob ob' : Nat → Option Obj} {a : AV} (h : ∀ n ∈ idsOf a, ob' n = ob n) : toD ob' a = toD ob a := by
  unfold toD
  split
  · rfl
  · rfl
  · rw [h _ (by simp [idsOf, idA, id1])]
  · rfl
theorem id1_sub (a : AV) : ∀ n ∈ id1 a, n ∈ idsOf a := fun n hn => by cases a <;> simp_all [id1, idsOf, idA]
theorem toDs_congr {ob ob' : Nat → Option Obj} : ∀ {l : List AV}, (∀ a ∈ l, ∀ n ∈ id1 a, ob' n = ob n) → toDs ob' l = toDs ob l
  | [], _ => rfl
  | a :: l, h => by
    have h1 : toD ob' a = toD ob a := by
      cases a with
      | ob n len => simp only [toD, h (.ob n len) (by simp) n (by simp [id1])]
      | _ => rfl
    simp only [toDs, h1, toDs_congr (l := l) fun b hb => h b (by simp [hb])]
theorem cellsOf_ids {a : AV} {p : Prop} {cs : List AV} (h : cellsOf a = some (p, cs)) : ∀ c ∈ cs, ∀ n ∈ id1 c, n ∈ idsOf a := by
  intro c hc n hn
  cases a with
  | agg l => cases h; exact List.mem_flatMap.2 ⟨c, hc, hn⟩
  | tup l => cases h
  | un => cases h
  | bl => cases h
  | bf => cases h
  | _ => cases h; simp at hc; subst hc; exact id1_sub _ n hn
theorem mem_put {α : Type} : ∀ {cs : List α} {k : Nat} {ns : List α} {x : α}, x ∈ put cs k ns → x ∈ cs ∨ x ∈ ns
  | cs, _, [], x, h => by simp [put] at h; exact .inl h
  | [], _, _ :: _, x, h => by simp [put] at h
  | _ :: cs, 0, n :: ns, x, h => by
    simp [put] at h
    rcases h with rfl | h
    · simp
    · rcases mem_put h with h | h <;> simp [h]
  | c :: cs, k + 1, n :: ns, x, h => by
    simp [put] at h
    rcases h with rfl | h
    · simp
    · rcases mem_put h with h | h
      · simp [h]
      · exact .inr h
theorem aFill_ids {place : Nat → Option (Nat × Nat)} : ∀ {parts : List (Nat × AV)} {cells r : List AV} {p : Prop}, aFill place cells parts = some (p, r) → ∀ c ∈ r, ∀ n ∈ id1 c, (∃ c' ∈ cells, n ∈ id1 c') ∨ ∃ q ∈ parts, n ∈ idsOf q.2
  | [], cells, r, p, h, c, hc, n, hn => by cases h; exact .inl ⟨c, hc, hn⟩
  | (i, a) :: rest, cells, r, p, h, c, hc, n, hn => by
    unfold aFill at h
    split at h
    · rename_i off size q cs hpl hcs
      split at h
      · rename_i q' r' hrest
        cases h
        rcases aFill_ids hrest c hc n hn with ⟨c', hc', hn'⟩ | ⟨q2, hq2, hn'⟩
        · rcases mem_put hc' with h1 | h1
          · exact .inl ⟨c', h1, hn'⟩
          · exact .inr ⟨(i, a), by simp, cellsOf_ids hcs c' h1 n hn'⟩
        · exact .inr ⟨q2, by simp [hq2], hn'⟩
      · cases h
    · cases h
theorem flat_ids {zs : List Value} {len : Nat} : ∀ c ∈ ((List.replicate len (zs.map AV.v)).flatten), id1 c = [] := by
  intro c hc
  obtain ⟨l, hl, hcl⟩ := List.mem_flatten.1 hc
  rw [List.eq_of_mem_replicate hl] at hcl
  obtain ⟨v, _, rfl⟩ := List.mem_map.1 hcl
  rfl

theorem parts_congr {parts : Array (Nat × Operand)} (h : ∀ q ∈ parts.toList, ev as' q.2 = ev as q.2) : (parts.toList.map fun q => (q.1, ev as' q.2)) = parts.toList.map fun q => (q.1, ev as q.2) :=
  List.map_congr_left fun q hq => by rw [h q hq]

theorem opD_congr {k : Nat} {o : Op} (h : ∀ x ∈ o.operands.toList, ev as' x = ev as x) (hf : ∀ n ∈ fpt as o, as'.ob n = as.ob n) : opD P k as' o = opD P k as o := by
  have hx : still o = false → ∀ x, x ∈ o.operands.toList → ∀ n ∈ idsOf (ev as x), as'.ob n = as.ob n := fun hs x hx n hn => hf n (fpt_get hs hx hn)
  cases o with
  | box t x => simp only [opD, h x (by simp [Op.operands])]
  | alloc t => rfl
  | store t x y =>
    simp only [opD, h x (by simp [Op.operands]), h y (by simp [Op.operands])]
    split
    · rename_i ag sz p cs ht hcs
      split
      · rename_i n off he
        rw [hx rfl x (by simp [Op.operands]) n (by rw [he]; simp [idsOf, idA, id1])]
      · rename_i n s i off he
        rw [hx rfl x (by simp [Op.operands]) n (by rw [he]; simp [idsOf, idA, id1]), toDs_congr (ob := as.ob) (ob' := as'.ob) fun a ha n hn => hx rfl y (by simp [Op.operands]) n (cellsOf_ids hcs a ha n hn)]
      · rfl
    · rfl
  | makeSlice t l c => simp only [opD, h l (by simp [Op.operands]), h c (by simp [Op.operands])]
  | makeMap t r => cases r <;> rfl
  | mapUpdate t x y z =>
    simp only [opD, h x (by simp [Op.operands]), h y (by simp [Op.operands]), h z (by simp [Op.operands])]
    split
    · rename_i q et n q' i e1 e2 e3
      rw [hx rfl x (by simp [Op.operands]) n (by rw [e2]; simp [idsOf, idA, id1]), toDs_congr (ob := as.ob) (ob' := as'.ob) fun a ha n hn => ?_]
      have ha' : a = ev as z := by simpa using ha
      subst ha'
      exact hx rfl z (by simp [Op.operands]) n (id1_sub _ n hn)
    · rfl
  | lookup t x y ok =>
    simp only [opD, h x (by simp [Op.operands]), h y (by simp [Op.operands])]
    split
    · rename_i q et n q' i e1 e2 e3
      rw [hx rfl x (by simp [Op.operands]) n (by rw [e2]; simp [idsOf, idA, id1])]
    · rfl
  | buildSlice t len parts =>
    have hp : ∀ q ∈ parts.toList, q.2 ∈ (Op.buildSlice t len parts).operands.toList := fun q hq => by
      simp only [Op.operands]; exact List.mem_map.2 ⟨q, hq, rfl⟩
    simp only [opD, parts_congr fun q hq => h q.2 (hp q hq)]
    split
    · split
      · split
        · rename_i p cs hcs
          rw [toDs_congr (ob := as.ob) (ob' := as'.ob) fun a ha n hn => ?_]
          rcases aFill_ids hcs a ha n hn with ⟨c', hc', hn'⟩ | ⟨q, hq, hn'⟩
          · rw [flat_ids c' hc'] at hn'; simp at hn'
          · obtain ⟨q', hq', rfl⟩ := List.mem_map.1 hq
            exact hx rfl q'.2 (hp q' hq') n hn'
        · rfl
      · rfl
    · rfl
  | build t parts =>
    have hp : ∀ q ∈ parts.toList, q.2 ∈ (Op.build t parts).operands.toList := fun q hq => by
      simp only [Op.operands]; exact List.mem_map.2 ⟨q, hq, rfl⟩
    simp only [opD, parts_congr fun q hq => h q.2 (hp q hq)]
  | slice t x lo hi mx =>
    cases mx with
    | some _ => rfl
    | none =>
      have h1 : lo.map (ev as') = lo.map (ev as) := by cases lo with | none => rfl | some l => simp [h l (by simp [Op.operands])]
      have h2 : hi.map (ev as') = hi.map (ev as) := by cases hi with | none => rfl | some l => simp [h l (by simp [Op.operands])]
      simp only [opD, h x (by simp [Op.operands]), h1, h2]
      split
      · rename_i n len he
        rw [hx rfl x (by simp [Op.operands]) n (by rw [he]; simp [idsOf, idA, id1])]
      · rfl
  | call c =>
    have hm : ∀ x ∈ c.args.toList, x ∈ (Op.call c).operands.toList := fun x hx => by simp [Op.operands, Call.operands] at hx ⊢; exact .inr hx
    simp only [opD]
    split
    · split
      · rename_i s x t t' e1 e2
        have hs := hm s (by rw [e1]; simp)
        have hxx := hm x (by rw [e1]; simp)
        have hsrc : srcRows as' (ev as x) = srcRows as (ev as x) := by
          unfold srcRows
          split
          · rfl
          · rename_i n len he
            rw [hx rfl x hxx n (by rw [he]; simp [idsOf, idA, id1])]
          · rfl
        rw [h s hs, h x hxx]
        have hS : appS P k as' t t' (ev as s) (ev as x) = appS P k as t t' (ev as s) (ev as x) := by
          unfold appS
          rw [hsrc]
          split
          · split
            · split
              · rfl
              · rename_i n len he
                rw [hx rfl s hs n (by rw [he]; simp [idsOf, idA, id1])]
              · rfl
            · rfl
          · rfl
        split
        · rfl
        · exact hS
      · rfl
    · rfl
  | _ => rfl

theorem frCh_congr {ob ob' : Nat → Option Obj} : ∀ {l : List Nat}, (∀ n ∈ l, ob' n = ob n) → frCh ob' l = frCh ob l
  | [], _ => rfl
  | n :: l, h => by
    have h0 := h n (by simp)
    have hl : ∀ n ∈ l, ob' n = ob n := fun q hq => h q (by simp [hq])
    simp only [frCh, h0]
    cases hob : ob n with
    | none => simp only [frCh_congr hl]
    | some o =>
      cases o with
      | box => simp only [frCh_congr hl]
      | opq => simp only [frCh_congr hl]
      | map => simp only [frCh_congr hl]
      | row e sz rows fz =>
        cases fz with
        | true => simp only [frCh_congr hl]
        | false =>
          simp only
          rw [frCh_congr (ob := upd ob n (some (.row e sz rows true))) (ob' := upd ob' n (some (.row e sz rows true))) fun q hq => by unfold upd; split <;> simp [hl q hq]]

theorem app_congr {n : Nat} : ∀ (c : List (Nat × Option Obj)) {ob ob' : Nat → Option Obj}, ob' n = ob n → app ob' c n = app ob c n
  | [], _, _, h => h
  | (k, o) :: c, ob, ob', h => app_congr c (by unfold upd; split <;> simp [h])

theorem ob1_sub (a : AV) : ∀ n ∈ ob1 a, n ∈ id1 a := fun n hn => by cases a <;> simp_all [ob1, id1]
theorem obIds_sub (a : AV) : ∀ n ∈ obIds a, n ∈ idsOf a := fun n hn => by
  cases a with
  | agg l =>
    obtain ⟨c, hc, hn'⟩ := List.mem_flatMap.1 hn
    exact List.mem_flatMap.2 ⟨c, hc, ob1_sub c n hn'⟩
  | _ => simp_all [obIds, idsOf, idA, id1]

theorem frOf_sub {o : Op} : ∀ n ∈ frOf as o, n ∈ fpt as o := by
  intro n hn
  have key : still o = false → ∀ x, x ∈ o.operands.toList → n ∈ idsOf (ev as x) → n ∈ fpt as o := fun hs x hx h => fpt_get hs hx h
  cases o with
  | store t x y =>
    simp only [frOf] at hn
    split at hn
    · exact key rfl y (by simp [Op.operands]) (obIds_sub _ n hn)
    · simp at hn
  | buildSlice t len parts =>
    obtain ⟨q, hq, hn'⟩ := List.mem_flatMap.1 hn
    exact key rfl q.2 (by simp only [Op.operands]; exact List.mem_map.2 ⟨q, hq, rfl⟩) (obIds_sub _ n hn')
  | slice t x lo hi mx =>
    simp only [frOf] at hn
    split at hn
    · rename_i q len he
      exact key rfl x (by simp [Op.operands]) (by rw [he]; simpa [idsOf, idA, id1] using hn)
    · simp at hn
  | mapUpdate t x y z => exact key rfl z (by simp [Op.operands]) (obIds_sub _ n (by simpa [frOf] using hn))
  | _ => simp [frOf] at hn

theorem frOf_congr {o : Op} (h : ∀ x ∈ o.operands.toList, ev as' x = ev as x) : frOf as' o = frOf as o := by
  cases o with
  | store t x y => simp only [frOf, h x (by simp [Op.operands]), h y (by simp [Op.operands])]
  | buildSlice t len parts =>
    simp only [frOf]
    apply fm_congr
    intro q hq
    rw [h q.2 (by simp only [Op.operands]; exact List.mem_map.2 ⟨q, hq, rfl⟩)]
  | slice t x lo hi mx => simp only [frOf, h x (by simp [Op.operands])]
  | mapUpdate t x y z => simp only [frOf, h z (by simp [Op.operands])]
  | _ => rfl

theorem fpt_congr {o : Op} (h : ∀ x ∈ o.operands.toList, ev as' x = ev as x) : fpt as' o = fpt as o := by
  cases hs : still o with
  | true => cases o <;> first | rfl | cases hs
  | false =>
    rw [fpt_eq hs, fpt_eq hs]
    apply fm_congr
    intro x hx
    rw [h x hx]

theorem low1_congr {ob ob' : Nat → Option Obj} {ln : List Nat} {a : AV} (h : ∀ n ∈ id1 a, ob' n = ob n) : low1 ob' ln a = low1 ob ln a := by
  cases a with
  | ob n len => simp only [low1, h n (by simp [id1])]
  | _ => rfl
theorem low_congr {ob ob' : Nat → Option Obj} {ln : List Nat} {a : AV} (h : ∀ n ∈ idsOf a, ob' n = ob n) : low ob' ln a = low ob ln a := by
  cases a with
  | agg l =>
    simp only [low]
    congr 1
    exact List.map_congr_left fun c hc => low1_congr fun n hn => h n (List.mem_flatMap.2 ⟨c, hc, hn⟩)
  | fn g cap => rfl
  | _ => exact low1_congr (ln := ln) fun n hn => h n (id1_sub _ n hn)
theorem id1_subA (a : AV) : ∀ n ∈ id1 a, n ∈ idA a := fun n hn => by cases a <;> simp_all [id1, idA]
theorem low_congrA {ob ob' : Nat → Option Obj} {ln : List Nat} {a : AV} (h : ∀ n ∈ idA a, ob' n = ob n) : low ob' ln a = low ob ln a := by
  cases a with
  | fn g cap => rfl
  | agg l =>
    simp only [low]
    congr 1
    exact List.map_congr_left fun c hc => low1_congr fun n hn => h n (List.mem_flatMap.2 ⟨c, hc, hn⟩)
  | _ => exact low1_congr (ln := ln) fun n hn => h n (id1_subA _ n hn)
theorem preOk_congr {ρ : Nat → Option (Option Nat)} {ob ob' : Nat → Option Obj} : ∀ {τ : List Nat} {pre : List Obj}, (∀ n ∈ τ, ob' n = ob n) → preOk ρ ob τ pre → preOk ρ ob' τ pre
  | [], [], _, _ => trivial
  | q :: τ, o :: pre, h, hp => ⟨by rw [h q (by simp)]; exact hp.1, preOk_congr (fun n hn => h n (by simp [hn])) hp.2⟩
  | [], _ :: _, _, hp => hp.elim
  | _ :: _, [], _, hp => hp.elim

theorem Step0.congr {k : Nat} {o : Oper} {r : AV} {ch : List (Nat × Option Obj)} (hs : Step0 P eq k o as r ch) (h : ∀ x ∈ o.op.operands.toList, ev as' x = ev as x) (hf : ∀ n ∈ fpt as o.op, as'.ob n = as.ob n) : Step0 P eq k o as' r ch := by
  have e1 : frCh as'.ob (frOf as' o.op) = frCh as.ob (frOf as o.op) := by
    rw [frOf_congr h]
    exact frCh_congr fun n hn => hf n (frOf_sub n hn)
  cases hs with
  | pure p r hp hpp => exact .pure p r (by rw [pureOp_congr h hf]; exact hp) hpp
  | mem p r set hp hpp =>
    rw [← e1]
    refine .mem p r set ?_ hpp
    rw [← hp, e1]
    refine opD_congr (as := as.chg (frCh as.ob (frOf as o.op))) (as' := as'.chg (frCh as.ob (frOf as o.op))) (fun x hx => ?_) (fun n hn => ?_)
    · have : ∀ (s : AS) c, ev (s.chg c) x = ev s x := fun s c => by cases x <;> rfl
      rw [this, this]; exact h x hx
    · have hfp : fpt (as.chg (frCh as.ob (frOf as o.op))) o.op = fpt as o.op := fpt_congr fun x _ => by cases x <;> rfl
      rw [hfp] at hn
      exact app_congr _ (hf n hn)
  | call c x g cap fr ln τ args' pre r post ho hc hx hsub hτ hlt hln hle hpre hlend hsp =>
    have e2 : frCh as'.ob fr = frCh as.ob fr := frCh_congr fun n hn => hf n (hsub n (.inl hn))
    have happ : ∀ n ∈ fpt as o.op, app as'.ob (frCh as.ob fr) n = app as.ob (frCh as.ob fr) n := fun n hn => app_congr _ (hf n hn)
    rw [← e2]
    have hm : ∀ y ∈ c.args.toList, y ∈ o.op.operands.toList := fun y hy => by rw [ho]; simp [Op.operands, Call.operands] at hy ⊢; exact .inr hy
    have hmx : x ∈ o.op.operands.toList := by rw [ho]; simp [Op.operands, Call.operands, hc]
    refine .call c x g cap fr ln τ args' pre r post ho hc (by rw [h x hmx]; exact hx) (by rw [fpt_congr h]; exact hsub) hτ hlt (fun n hn => ?_) ?_ ?_ hlend hsp
    · rw [e2, happ n (hsub n (.inr (.inl hn)))]
      exact hln n hn
    · rw [e2, evs_congr fun y hy => h y (hm y hy)]
      have : (evs as c.args.toList ++ cap).map (low (app as'.ob (frCh as.ob fr)) ln) = (evs as c.args.toList ++ cap).map (low (app as.ob (frCh as.ob fr)) ln) := by
        refine List.map_congr_left fun a ha => ?_
        rcases List.mem_append.1 ha with ha | ha
        · obtain ⟨y, hy, rfl⟩ := List.mem_map.1 ha
          exact low_congr fun n hn => happ n (fpt_get (by rw [ho]; rfl) (hm y hy) hn)
        · exact low_congrA fun n hn => happ n (fpt_get (by rw [ho]; rfl) hmx (by rw [hx]; exact List.mem_flatMap.2 ⟨a, ha, hn⟩))
      rw [this]
      exact hle
    · rw [e2]
      exact preOk_congr (fun n hn => happ n (hsub n (.inr (.inr hn)))) hpre
  | cut t x y n0 len e e' sz rows kh hv ho hx hob hh h0 h1 ht hfp =>
    refine .cut t x y n0 len e e' sz rows kh hv ho (by rw [h x (by rw [ho]; simp [Op.operands])]; exact hx) (by rw [hf n0 hfp]; exact hob) (by rw [h y (by rw [ho]; simp [Op.operands])]; exact hh) h0 h1 ht (by rw [fpt_congr h]; exact hfp)
  | cb c x n0 fr ln τ args' pre r post ho hc hx hn0 hsub hτ hlt hln hle hpre hlend hsp =>
    have e2 : frCh as'.ob fr = frCh as.ob fr := frCh_congr fun n hn => hf n (hsub n (.inl hn))
    have happ : ∀ n ∈ fpt as o.op, app as'.ob (frCh as.ob fr) n = app as.ob (frCh as.ob fr) n := fun n hn => app_congr _ (hf n hn)
    rw [← e2]
    have hm : ∀ y ∈ c.args.toList, y ∈ o.op.operands.toList := fun y hy => by rw [ho]; simp [Op.operands, Call.operands] at hy ⊢; exact .inr hy
    have hmx : x ∈ o.op.operands.toList := by rw [ho]; simp [Op.operands, Call.operands, hc]
    refine .cb c x n0 fr ln τ args' pre r post ho hc (by rw [h x hmx]; exact hx) hn0 (by rw [fpt_congr h]; exact hsub) hτ hlt (fun n hn => ?_) ?_ ?_ hlend hsp
    · rw [e2, happ n (hsub n (.inr (.inl hn)))]
      exact hln n hn
    · rw [e2, evs_congr fun y hy => h y (hm y hy)]
      have : (evs as c.args.toList).map (low (app as'.ob (frCh as.ob fr)) ln) = (evs as c.args.toList).map (low (app as.ob (frCh as.ob fr)) ln) := by
        refine List.map_congr_left fun a ha => ?_
        obtain ⟨y, hy, rfl⟩ := List.mem_map.1 ha
        exact low_congr fun n hn => happ n (fpt_get (by rw [ho]; rfl) (hm y hy) hn)
      rw [this]
      exact hle
    · rw [e2]
      exact preOk_congr (fun n hn => happ n (hsub n (.inr (.inr hn)))) hpre

theorem app_key {n : Nat} : ∀ (c : List (Nat × Option Obj)) (ob ob' : Nat → Option Obj), n ∈ c.map (·.1) → app ob c n = app ob' c n
  | [], _, _, h => by simp at h
  | (k, o) :: c, ob, ob', h => by
    by_cases hc : n ∈ c.map (·.1)
    · exact app_key c _ _ hc
    · have hk : n = k := by
        rcases List.mem_cons.1 h with h | h
        · exact h
        · exact absurd h hc
      subst hk
      exact app_congr c (by simp [upd])
theorem app_nokey {n : Nat} : ∀ (c : List (Nat × Option Obj)) (ob : Nat → Option Obj), n ∉ c.map (·.1) → app ob c n = ob n
  | [], _, _ => rfl
  | (k, o) :: c, ob, h => by
    simp only [List.map_cons, List.mem_cons, not_or] at h
    rw [app, app_nokey c _ h.2]
    simp [upd, h.1]
theorem Step.congr {k : Nat} {o : Oper} {r : AV} {ch : List (Nat × Option Obj)} (hs : Step P eq k o as r ch) (h : ∀ x ∈ o.op.operands.toList, ev as' x = ev as x) (hf : ∀ n ∈ fpt as o.op, as'.ob n = as.ob n) : Step P eq k o as' r ch := by
  cases hs with
  | base hs => exact .base (hs.congr h hf)
  | thin ch0 hs h1 hk =>
    refine .thin ch0 (hs.congr h hf) (fun n => ?_) (fun n hn => hk n (by rw [← fpt_congr h]; exact hn))
    by_cases hn : n ∈ fpt as o.op
    · rw [app_congr ch0 (hf n hn), app_congr ch (hf n hn)]
      exact h1 n
    · by_cases hc : n ∈ ch0.map (·.1)
      · rw [app_key ch0 as'.ob as.ob hc, app_key ch as'.ob as.ob ((hk n hn).1 hc)]
        exact h1 n
      · rw [app_nokey ch0 _ hc, app_nokey ch _ (fun h2 => hc ((hk n hn).2 h2))]
end
end Go.Proofs.Ytfaekiaegebmbaa.Ab
