/- The operations that change no memory: the model computes what the abstract machine says. -/
import Derived.Test.YtfaekiaegebmbaaAbB
import Derived.Laws.Small
import Derived.Laws.Slices
import Derived.Laws.Cover3
namespace Go.Proofs.Ytfaekiaegebmbaa.Ab
open Go Go.RowKit
set_option linter.unusedSimpArgs false
set_option linter.unusedVariables false
section
variable {m : Mem} {w : World} {as : AS} {a : Act} {P : Program}

theorem nil_run {t : TypeId} (ht : (elt P t).isSome = true) (A : Option Addr) (l c : Nat) (ox oy : Operand) :
    (do eqGuard .eql t ox oy (.slice A l c) (.slice none 0 0); binOp .eql t (.slice A l c) (.slice none 0 0) : Sem Value).run P w = .ok (.bool A.isNone) w ∧
    (do eqGuard .neq t ox oy (.slice A l c) (.slice none 0 0); binOp .neq t (.slice A l c) (.slice none 0 0) : Sem Value).run P w = .ok (.bool !A.isNone) w := by
  obtain ⟨⟨e, s⟩, he⟩ := Option.isSome_iff_exists.mp ht
  obtain ⟨hu, _⟩ := elt_some he
  have h := run_equal_slice_nil w t e A l c hu
  have h2 := run_neq_slice_nil w t e A l c hu
  constructor
  · rw [Sem.run_bind]
    simp [eqGuard, binOp, h]
  · rw [Sem.run_bind]
    simp [eqGuard, h2]

theorem pBin_run {eq : TypeId → Option (List Value)} {op : BinOp} {t : TypeId} {x y r : AV} {p : Prop} {vx vy : Value} (h : pBin P eq op t x y = some (p, r)) (hp : p) (hx : Rep w m x vx) (hy : Rep w m y vy) (ox oy : Operand) :
    ∃ u, (do eqGuard op t ox oy vx vy; binOp op t vx vy : Sem Value).run P w = .ok u w ∧ Rep w m r u := by
  unfold pBin at h
  split at h
  · rename_i ax ay
    cases hx; cases hy
    split at h
    · obtain ⟨q, hq, he⟩ := Option.map_eq_some_iff.1 h
      cases he
      exact ⟨q.2, binV_run hq hp t ox oy w, .v _⟩
    · split at h <;> cases h
      · refine ⟨_, ?_, .v _⟩
        rw [Sem.run_bind, eqGuard_at_bool]
        simp only [Sem.run_pure, Result.andThen_ok, run_eql_bool w t _ _ hp.2]
      · refine ⟨_, ?_, .v _⟩
        rw [Sem.run_bind, eqGuard_at_bool]
        simp only [Sem.run_pure, Result.andThen_ok, run_neq_bool w t _ _ hp.2]
        rfl
    · split at h <;> cases h
      · exact ⟨_, (nil_run hp none 0 0 ox oy).1, .v _⟩
      · exact ⟨_, (nil_run hp none 0 0 ox oy).2, .v _⟩
    · cases h
  · rename_i l l'
    cases hx with
    | agg _ xs hl h1 hx =>
    cases hy with
    | agg _ ys hl' h1' hy =>
    split at h
    · rename_i xv yv ks e1 e2 e3
      cases h
      obtain ⟨hE, h2, h3⟩ := hp
      have ex := rep_vals e1 hl hx
      have ey := rep_vals e2 hl' hy
      subst ex; subst ey
      exact ⟨_, (hE w xv yv ox oy h2 h3).1, .v _⟩
    · rename_i xv yv ks e1 e2 e3
      cases h
      obtain ⟨hE, h2, h3⟩ := hp
      have ex := rep_vals e1 hl hx
      have ey := rep_vals e2 hl' hy
      subst ex; subst ey
      exact ⟨_, (hE w xv yv ox oy h2 h3).2, .v _⟩
    · cases h
  · rename_i sz rows
    cases hy
    cases hx with
    | sl _ _ _ hx =>
    have hsl : ∃ A l c, vx = .slice A l c ∧ (A.isNone = true → rows = []) := by
      cases hx with
      | sl0 _ A c => exact ⟨_, _, _, rfl, fun _ => rfl⟩
      | sl => exact ⟨_, _, _, rfl, fun h => by simp at h⟩
    obtain ⟨A, l, c, rfl, hn⟩ := hsl
    split at h <;> cases h
    · exact ⟨_, (nil_run hp A l c ox oy).1, .bl _ _ _ hn (fun _ => trivial)⟩
    · exact ⟨_, (nil_run hp A l c ox oy).2, .bl _ _ _ (fun _ => trivial) (fun h => hn (by simpa using h))⟩
  · cases hy
    cases hx with
    | ob _ _ A c hb =>
    split at h <;> cases h
    · exact ⟨_, (nil_run hp A _ c ox oy).1, .bl _ _ _ (fun _ => trivial) (fun _ => trivial)⟩
    · exact ⟨_, (nil_run hp A _ c ox oy).2, .bl _ _ _ (fun _ => trivial) (fun _ => trivial)⟩
  · cases h

theorem pUn_run {op : UnOp} {x r : AV} {p : Prop} {vx : Value} (h : pUn op x = some (p, r)) (hx : Rep w m x vx) : ∃ u, (Op.unary op vx).run P w = .ok u w ∧ Rep w m r u := by
  unfold pUn at h
  split at h <;> cases h <;> cases hx <;> exact ⟨_, by simp [Op.unary, Op.intArith], .v _⟩

theorem pConv_run {s t : TypeId} {x r : AV} {p : Prop} {vx : Value} (h : pConv P s t x = some (p, r)) (hp : p) (hx : Rep w m x vx) : ∃ u, (convert s t vx).run P w = .ok u w ∧ Rep w m r u := by
  unfold pConv at h
  split at h
  · split at h
    · rename_i k hk
      cases h
      cases hx
      obtain ⟨d, hd⟩ := Option.isSome_iff_exists.mp hp
      exact ⟨_, by simp [convert, run_underlying hd, run_underlying hk, Conv.intToInt], .v _⟩
    · cases h
  · cases h

theorem pickV_rep {c : Bool} {x y r : AV} {p : Prop} {vx vy : Value} (h : pickV c x y = some (p, r)) (hp : p) (hx : Rep w m x vx) (hy : Rep w m y vy) : Rep w m r (if c then vx else vy) := by
  unfold pickV at h
  split at h
  · cases h
    cases hx; cases hy
    cases c <;> exact .v _
  · cases h
    cases hx; cases hy
    obtain rfl := hp
    cases c <;> exact .v _
  · cases h
    obtain rfl := hp
    exact hy
  · cases h
    obtain rfl := hp
    exact hx
  · cases h

theorem row_bound {i j n sz : Nat} (hi : i < n) (hj : j < sz) : i * sz + j < n * sz := by
  have h1 : (i + 1) * sz ≤ n * sz := Nat.mul_le_mul_right sz hi
  rw [Nat.add_mul] at h1
  omega

theorem mem_getD {xs : Array Value} {i : Nat} (h : i < xs.size) : xs.getD i undef ∈ xs := by
  rw [← Array.getElem_eq_getD (h := h)]
  exact Array.getElem_mem h

theorem load_repD {k o : Nat} {ag : Bool} (cells : List DV) (f : Nat → Value) (hok : o + k ≤ cells.length) (hag : ag = false → k = 1) (h1 : ∀ j, j < k → (f j).oneCell' = true) (h : ∀ j a, j < k → cells[o + j]? = some a → RD w m.I a (f j)) :
    Rep w m (mkVal ag (((cells.drop o).take k).map ofD)) (if ag then .agg ((List.range k).map f).toArray else ((List.range k).map f).headD undef) := by
  have e : ((cells.drop o).take k).map ofD = ((cells.map ofD).drop o).take k := by rw [List.map_take, List.map_drop]
  rw [e]
  refine load_rep (cells.map ofD) f (by simpa using hok) hag h1 (fun j a hj ha => ?_)
  rw [List.getElem?_map, Option.map_eq_some_iff] at ha
  obtain ⟨d, hd, rfl⟩ := ha
  exact (h j d hj hd).rep

theorem pLoad_run (hR : Rel m w as a) {t : TypeId} {x r : AV} {p : Prop} {vx : Value} (h : pLoad P as t x = some (p, r)) (hp : p) (hx : Rep w m x vx) : ∃ u, (Instr.loadAt t vx).run P w = .ok u w ∧ Rep w m r u := by
  unfold pLoad at h
  split at h
  · cases h
  · rename_i ag k ht
    split at h
    · rename_i n off
      split at h
      · rename_i t' cells ho
        cases h
        cases hx with
        | ptr _ _ g hb =>
        obtain ⟨v, hv, g', cs, rfl, hheap, hsz, hrep, h1, _⟩ := hR.mr.obs n _ ho
        rw [hb] at hv
        cases hv
        refine ⟨_, load_run ht hp.2 (fun j => cs.getD (off + j) undef) (fun j hj => ?_), load_rep cells _ hp.1 hp.2 (fun j hj => h1 _ (mem_getD (by omega))) (fun j a hj ha => hrep _ _ ha)⟩
        rw [cell_of_row w g (off + j) cs t' (0, 0) hheap]
        have : off + j < cs.size := by omega
        simp [Array.getD, this]
      · cases h
    · rename_i sz rows i off
      unfold elpLoad at h
      cases h
      replace hp := hp.2.2
      cases hx with
      | elp _ _ b o _ _ cell hsz hi hI hcell h1 hrep =>
      have hr : (rows.getD i []).length = sz := by
        have : rows.getD i [] = rows[i] := by simp [List.getD, hi]
        rw [this]; exact hsz _ (List.getElem_mem hi)
      refine ⟨_, load_run ht hp.2 (fun j => cell i (off + j)) (fun j hj => ?_), load_repD (rows.getD i []) _ (by omega) hp.2 (fun j hj => h1 _ _ hi (by omega)) (fun j a hj ha => hrep i (rows.getD i []) _ _ (by simp [List.getD, hi]) ha)⟩
      have := hcell i (off + j) hi (by omega)
      rw [← this]; congr 2; omega
    · rename_i n sz i off
      split at h
      · rename_i e sz' rows fz ho
        unfold elpLoad at h
        cases h
        obtain ⟨rfl, hi, hk, hag⟩ := hp
        cases hx with
        | obp _ _ _ _ g len c hb =>
        obtain ⟨v, hv, hsz, hh⟩ := hR.mr.obs n _ ho
        rw [hb] at hv
        cases hv
        rcases hh with ⟨_, rfl⟩ | ⟨g', cap, cur, he, hheap, hlc, hcm, hcs, hrep, h1, _⟩
        · simp at hi
        injection he with he1 he2 he3
        cases he1
        have hr : (rows.getD i []).length = sz' := by
          have : rows.getD i [] = rows[i] := by simp [List.getD, hi]
          rw [this]; exact hsz _ (List.getElem_mem hi)
        have hb2 : ∀ j, j < k → i * sz' + (off + j) < cur.size := fun j hj => by
          rw [hcs]
          exact row_bound (by omega) (by omega)
        refine ⟨_, load_run ht hag (fun j => cur.getD (i * sz' + (off + j)) undef) (fun j hj => ?_), load_repD (rows.getD i []) _ (by omega) hag (fun j hj => h1 _ (row_bound hi (by omega))) (fun j a hj ha => hrep i (rows.getD i []) _ _ (by simp [List.getD, hi]) ha)⟩
        rw [cell_of_row w g _ cur e (0, 0) hheap]
        have := hb2 j hj
        simp [Array.getD, Nat.add_assoc, this]
      · cases h
    · cases h

theorem fieldPlace_run {f : Field} {i : TypeInfo} (hi : P.info? f.type = some i) (hz : i.size ≠ 0) (b o : Nat) : (fieldPlace ⟨b, o, none⟩ f).run P w = .ok ⟨b, o + f.offset, none⟩ w := by
  simp [fieldPlace, run_size_of hi, hz, Addr.add_lit]

theorem pFieldAddr_run {t : TypeId} {k : Nat} {x r : AV} {p : Prop} {vx : Value} (h : pFieldAddr P t k x = some (p, r)) (hx : Rep w m x vx) : ∃ u, (Instr.fieldAt t vx k).run P w = .ok u w ∧ Rep w m r u := by
  unfold pFieldAddr at h
  split at h
  · cases h
  · rename_i o ut hf
    obtain ⟨fs, f, i, hu, hk, rfl, rfl, hi, hz⟩ := fld_some hf
    split at h
    · cases h
      cases hx with
      | ptr n off g hb =>
      exact ⟨_, by simp [Instr.fieldAt, run_underlying hu, hk, Instr.sureAddr, fieldPlace_run hi hz], .ptr _ _ g hb⟩
    · cases h
      rename_i sz rows j off
      cases hx with
      | elp _ _ b o _ _ cell hsz hj hI hcell h1 hrep =>
      refine ⟨_, by simp [Instr.fieldAt, run_underlying hu, hk, Instr.sureAddr, fieldPlace_run hi hz]; rfl, ?_⟩
      have e : o + (j * sz + off) + f.offset = o + (j * sz + (off + f.offset)) := by omega
      rw [e]
      exact .elp _ _ b o j _ cell hsz hj hI hcell h1 hrep
    · cases h
      rename_i n sz j off
      cases hx with
      | obp _ _ _ _ g len c hb =>
      refine ⟨_, by simp [Instr.fieldAt, run_underlying hu, hk, Instr.sureAddr, fieldPlace_run hi hz]; rfl, ?_⟩
      have e : j * sz + off + f.offset = j * sz + (off + f.offset) := by omega
      rw [e]
      exact .obp _ _ j _ g len c hb
    · cases h

theorem part_rep {u : TypeId} {ag : Bool} {n o : Nat} (ht : tyc P u = some (ag, n)) {l : List AV} {xs : Array Value} (hl : l.length = xs.size) (h1 : ∀ x ∈ xs, x.oneCell' = true) (hx : ∀ i a, l[i]? = some a → Rep w m a (xs.getD i undef))
    (hon : o + n ≤ l.length) (hag : ag = false → n = 1) : ∃ v, (part u xs o).run P w = .ok v w ∧ Rep w m (mkVal ag ((l.drop o).take n)) v := by
  obtain ⟨e1, e2⟩ := tyc_isAgg ht w
  have hr := load_rep (w := w) (m := m) (ag := ag) l (fun j => xs.getD (o + j) undef) hon hag (fun j hj => h1 _ (mem_getD (by omega))) (fun j a hj ha => hx _ _ ha)
  cases ag with
  | true =>
    refine ⟨.agg (xs.extract o (o + n)), by simp [part, e1, e2], ?_⟩
    simp only [if_true] at hr
    have : ((List.range n).map fun j => xs.getD (o + j) undef).toArray = xs.extract o (o + n) := by
      apply Array.ext
      · simp; omega
      · intro i h1 h2
        simp at h1 h2
        have : o + i < xs.size := by omega
        simp [Array.getD, this]
    rw [this] at hr
    exact hr
  | false =>
    have hn := hag rfl
    subst hn
    have ho : o < xs.size := by omega
    refine ⟨xs.getD o undef, by simp [part, e1, ho, Array.getD], ?_⟩
    simpa using hr

theorem pField_run {t : TypeId} {k : Nat} {x r : AV} {p : Prop} {vx : Value} (h : pField P t k x = some (p, r)) (hp : p) (hx : Rep w m x vx) : ∃ u, (Instr.field t vx k).run P w = .ok u w ∧ Rep w m r u := by
  unfold pField at h
  split at h
  · cases h
  · rename_i o ut hf
    obtain ⟨fs, f, i, hu, hk, rfl, rfl, hi, hz⟩ := fld_some hf
    split at h
    · rename_i ag n l ht
      cases h
      cases hx with
      | agg _ xs hl h1 hx =>
      obtain ⟨v, hv, hr⟩ := part_rep ht hl h1 hx hp.1 hp.2
      exact ⟨v, by simp [Instr.field, run_underlying hu, hk, asAgg, hv], hr⟩
    · cases h

theorem add_lit' (b o n : Nat) : (⟨b, o, none⟩ : Addr).add n = ⟨b, o + n, none⟩ := Addr.add_lit b o n

theorem pIndexAddr_run (hR : Rel m w as a) {t : TypeId} {x y r : AV} {p : Prop} {vx vy : Value} (h : pIndexAddr P as t x y = some (p, r)) (hp : p) (hx : Rep w m x vx) (hy : Rep w m y vy) : ∃ u, (Instr.indexAt t vx vy).run P w = .ok u w ∧ Rep w m r u := by
  unfold pIndexAddr at h
  split at h
  · rename_i k i
    cases hy
    split at h
    · rename_i sz rows
      split at h
      · rename_i e sz' ht
        cases h
        obtain ⟨rfl, h0, hlt⟩ := hp
        obtain ⟨hu, ti, hti, hts⟩ := elt_some ht
        cases hx with
        | sl _ _ _ hx =>
        cases hx with
        | sl0 _ A c => simp at hlt; omega
        | sl _ _ b o c cell hsz hlen hc hI hcell h1 hrep =>
          refine ⟨.pointer (some ⟨b, o + (i.toNat * sz' + 0), none⟩), ?_, .elp _ _ b o _ _ cell hsz (by omega) hI hcell h1 hrep⟩
          simp [Instr.indexAt, asIntOf, run_underlying hu, h0, hlt, run_size_of hti, hts, add_lit']
      · cases h
    · rename_i n len
      split at h
      · rename_i e sz' e' sz rows fz ht ho
        cases h
        obtain ⟨rfl, h0, hlt⟩ := hp
        obtain ⟨hu, ti, hti, hts⟩ := elt_some ht
        cases hx with
        | ob _ _ A c hb =>
        obtain ⟨v, hv, hsz, hh⟩ := hR.mr.obs n _ ho
        rw [hb] at hv
        cases hv
        rcases hh with ⟨_, rfl⟩ | ⟨g', cap, cur, he, _⟩
        · simp at hlt; omega
        injection he with he1 he2 he3
        subst he1; subst he2
        refine ⟨.pointer (some ⟨g', i.toNat * sz' + 0, none⟩), ?_, .obp _ _ _ _ g' _ _ hb⟩
        simp [Instr.indexAt, asIntOf, run_underlying hu, h0, hlt, run_size_of hti, hts, add_lit']
      · cases h
    · rename_i n off
      split at h
      · rename_i len e sz ht
        cases h
        obtain ⟨h0, hlt⟩ := hp
        obtain ⟨hu, ti, hti, hts⟩ := arr_some ht
        cases hx with
        | ptr _ _ g hb =>
        refine ⟨_, ?_, .ptr _ _ g hb⟩
        simp [Instr.indexAt, asIntOf, run_underlying hu, Instr.sureAddr, h0, hlt, run_size_of hti, hts, add_lit']
      · cases h
    · rename_i sz rows j off
      split at h
      · rename_i len e s ht
        cases h
        obtain ⟨h0, hlt⟩ := hp
        obtain ⟨hu, ti, hti, hts⟩ := arr_some ht
        cases hx with
        | elp _ _ b o _ _ cell hsz hj hI hcell h1 hrep =>
        refine ⟨.pointer (some ⟨b, o + (j * sz + (off + i.toNat * s)), none⟩), ?_, .elp _ _ b o j _ cell hsz hj hI hcell h1 hrep⟩
        simp [Instr.indexAt, asIntOf, run_underlying hu, Instr.sureAddr, h0, hlt, run_size_of hti, hts, add_lit', Nat.add_assoc]
      · cases h
    · rename_i n sz j off
      split at h
      · rename_i len e s ht
        cases h
        obtain ⟨h0, hlt⟩ := hp
        obtain ⟨hu, ti, hti, hts⟩ := arr_some ht
        cases hx with
        | obp _ _ _ _ g len c hb =>
        refine ⟨.pointer (some ⟨g, j * sz + (off + i.toNat * s), none⟩), ?_, .obp _ _ _ _ g _ _ hb⟩
        simp [Instr.indexAt, asIntOf, run_underlying hu, Instr.sureAddr, h0, hlt, run_size_of hti, hts, add_lit', Nat.add_assoc]
      · cases h
    · cases h
  · cases h

theorem pIndex_run {t : TypeId} {x y r : AV} {p : Prop} {vx vy : Value} (h : pIndex P t x y = some (p, r)) (hp : p) (hx : Rep w m x vx) (hy : Rep w m y vy) : ∃ u, (Instr.index t vx vy).run P w = .ok u w ∧ Rep w m r u := by
  unfold pIndex at h
  split at h
  · rename_i k i l
    cases hy
    split at h
    · rename_i len e sz ht
      obtain ⟨hu, ti, hti, hts⟩ := arr_some ht
      split at h
      · rename_i ag n hte
        cases h
        obtain ⟨rfl, h0, hlt, hle, hag⟩ := hp
        cases hx with
        | agg _ xs hl h1 hx =>
        obtain ⟨v, hv, hr⟩ := part_rep hte hl h1 hx hle hag
        refine ⟨v, ?_, hr⟩
        simp [Instr.index, asIntOf, run_underlying hu, h0, hlt, run_size_of hti, hts, hv]
      · cases h
    · cases h
  · cases h

theorem pExtract_run {k : Nat} {x r : AV} {p : Prop} {vx : Value} (h : pExtract k x = some (p, r)) (hp : p) (hx : Rep w m x vx) : ∃ u, (Instr.extract vx k).run P w = .ok u w ∧ Rep w m r u := by
  unfold pExtract at h
  split at h
  · rename_i l
    cases h
    cases hx with
    | tup _ xs hl hx =>
    have hk : k < xs.size := by omega
    refine ⟨xs.getD k undef, by simp [Instr.extract, hk, Array.getD], hx k _ ?_⟩
    simp [List.getD, hp]
  · cases h

theorem pLen_run {t ty : TypeId} {x r : AV} {p : Prop} {vx : Value} (h : pLen P t x = some (p, r)) (hp : p) (hx : Rep w m x vx) : ∃ u, (Builtin.len_ #[t] ty #[vx]).run P w = .ok u w ∧ Rep w m r u := by
  unfold pLen at h
  split at h
  · rename_i sz rows
    cases h
    obtain ⟨⟨e, s⟩, he⟩ := Option.isSome_iff_exists.mp hp
    obtain ⟨hu, _⟩ := elt_some he
    cases hx with
    | sl _ _ _ hx =>
    cases hx with
    | sl0 _ A c => exact ⟨_, by simp [Builtin.len_, run_underlying hu, goInt], .v _⟩
    | sl => exact ⟨_, by simp [Builtin.len_, run_underlying hu, goInt], .v _⟩
  · rename_i n len
    cases h
    obtain ⟨⟨e, s⟩, he⟩ := Option.isSome_iff_exists.mp hp
    obtain ⟨hu, _⟩ := elt_some he
    cases hx with
    | ob => exact ⟨_, by simp [Builtin.len_, run_underlying hu, goInt], .v _⟩
  · rename_i A n c
    cases h
    obtain ⟨⟨e, s⟩, he⟩ := Option.isSome_iff_exists.mp hp
    obtain ⟨hu, _⟩ := elt_some he
    cases hx
    exact ⟨_, by simp [Builtin.len_, run_underlying hu, goInt], .v _⟩
  · rename_i l
    split at h
    · rename_i n e s ht
      cases h
      obtain ⟨hu, _⟩ := arr_some ht
      exact ⟨_, by simp [Builtin.len_, run_underlying hu, goInt], .v _⟩
    · cases h
  · cases h

theorem pNil_run {x r : AV} {p : Prop} {vx : Value} (h : pNil x = some (p, r)) (hx : Rep w m x vx) : (∃ b, vx = .pointer (some b)) ∧ Rep w m r vx := by
  unfold pNil at h
  split at h <;> cases h
  all_goals exact ⟨by cases hx; exact ⟨_, rfl⟩, hx⟩

theorem evs_rep (hR : Rel m w as a) : ∀ (l : List Operand) i c, (evs as l)[i]? = some c → Rep w m c ((l.map a.eval).getD i undef)
  | [], i, c, h => by simp [evs] at h
  | x :: l, 0, c, h => by
    simp [evs] at h
    subst h
    simpa using ev_rep hR x
  | x :: l, i + 1, c, h => by
    have := evs_rep hR l i c (by simpa [evs] using h)
    simpa using this

theorem ints_rep (hR : Rel m w as a) : ∀ (l : List Operand) (xs : List Int), ints (evs as l) = some xs → l.map a.eval = xs.map (fun n => Value.int .i64 n)
  | [], xs, h => by simp [evs, ints] at h; simp [h]
  | x :: l, xs, h => by
    have h0 := ev_rep hR x
    simp only [evs, List.map_cons] at h
    revert h h0
    generalize ev as x = c
    generalize he : a.eval x = y
    intro h0 h
    unfold ints at h
    split at h
    · rename_i hh; cases hh
    · rename_i n l' hh
      cases hh
      obtain ⟨r, hr, rfl⟩ := Option.map_eq_some_iff.1 h
      cases h0
      have := ints_rep hR l r hr
      simp [this, he]
    · cases h

theorem fold_max (x : Int) (r : List Int) : (r.map (fun n => Value.int .i64 n)).foldlM (m := Sem) Builtin.max2 (.int .i64 x) = pure (.int .i64 (r.foldl max x)) := by
  induction r generalizing x with
  | nil => rfl
  | cons y r ih =>
    have e : (if y > x then y else x) = max x y := by omega
    simp only [List.map_cons, List.foldlM_cons, Builtin.max2, pure_bind, List.foldl_cons, e]
    exact ih _
theorem fold_min (x : Int) (r : List Int) : (r.map (fun n => Value.int .i64 n)).foldlM (m := Sem) Builtin.min2 (.int .i64 x) = pure (.int .i64 (r.foldl min x)) := by
  induction r generalizing x with
  | nil => rfl
  | cons y r ih =>
    have e : (if y < x then y else x) = min x y := by omega
    simp only [List.map_cons, List.foldlM_cons, Builtin.min2, pure_bind, List.foldl_cons, e]
    exact ih _

/-- a part of a slice -/
theorem RD.cut {I : Nat → Prop} {sz len cap l h : Nat} {rows : List (List DV)} {A : Option Addr} (hx : RD w I (.sl sz rows) (.slice A len cap)) (hl : l ≤ h) (hh : h ≤ rows.length) :
    len = rows.length ∧ len ≤ cap ∧ RD w I (.sl sz ((rows.take h).drop l)) (sliced A l h cap sz) := by
  cases hx with
  | sl0 _ A c hc =>
    have h0 : h = 0 := by simpa using hh
    have l0 : l = 0 := by omega
    subst h0; subst l0
    refine ⟨rfl, by omega, ?_⟩
    simp only [sliced, List.take_nil, List.drop_nil]
    exact .sl0 _ _ _ (by omega)
  | sl _ _ b o c cell hsz hlen hc hI hcell h1 hrep =>
    refine ⟨rfl, hlen, ?_⟩
    by_cases hlh : l = h
    · subst hlh
      have : (rows.take l).drop l = [] := by simp
      rw [this]
      simp only [sliced, Nat.sub_self]
      exact .sl0 _ _ _ (by omega)
    · have hcl : ¬ cap = l := by omega
      have hlen' : ((rows.take h).drop l).length = h - l := by simp; omega
      simp only [sliced, if_neg hcl, Option.map_some, add_lit']
      rw [← hlen']
      have hget : ∀ i r, ((rows.take h).drop l)[i]? = some r → rows[l + i]? = some r := by
        intro i r hr
        rw [List.getElem?_drop, List.getElem?_take] at hr
        split at hr
        · exact hr
        · cases hr
      refine .sl _ _ b (o + l * sz) _ (fun i j => cell (l + i) j) (fun r hr => hsz r (List.mem_of_mem_take (List.mem_of_mem_drop hr))) (by omega) (by omega) hI (fun i j hi hj => ?_) (fun i j hi hj => h1 _ _ (by omega) hj) (fun i r j a hr ha => hrep _ r j a (hget i r hr) ha)
      rw [← hcell (l + i) j (by omega) hj, Nat.add_mul]
      congr 2
      omega

theorem elem_of {t e sz : Nat} (ht : elt P t = some (e, sz)) : P.underlying t = some (.slice (P.elem t)) ∧ (sizeOf (P.elem t)).run P w = .ok sz w := by
  obtain ⟨hu, i, hi, rfl⟩ := elt_some ht
  have : P.elem t = e := by simp [Program.elem, hu]
  rw [this]
  exact ⟨hu, run_size_of hi w⟩

theorem pSlice_run {t : TypeId} {x r : AV} {lo hi mx : Option AV} {p : Prop} {vx : Value} {vlo vhi : Option Value} (h : pSlice P t x lo hi mx = some (p, r)) (hp : p) (hx : Rep w m x vx)
    (hlo : ∀ a, lo = some a → ∃ v, vlo = some v ∧ Rep w m a v) (hlo' : lo = none → vlo = none) (hhi : ∀ a, hi = some a → ∃ v, vhi = some v ∧ Rep w m a v) (hhi' : hi = none → vhi = none) :
    ∃ u, (Instr.sliceAt t vx vlo vhi none).run P w = .ok u w ∧ Rep w m r u := by
  unfold pSlice at h
  split at h
  · rename_i sz rows
    cases hx with
    | sl _ _ _ hx =>
    split at h
    · rename_i e sz' ht
      obtain ⟨hu, hs⟩ := elem_of (w := w) ht
      have hvx : ∃ A c, vx = .slice A rows.length c := by cases hx <;> exact ⟨_, _, rfl⟩
      obtain ⟨A, c, rfl⟩ := hvx
      rw [run_sliceAt_slice w t _ _ _ _ hu]
      split at h
      · cases h
        obtain rfl := hp
        rw [hlo' rfl, hhi' rfl]
        obtain ⟨_, hc, hr⟩ := hx.cut (l := 0) (h := rows.length) (by omega) (by omega)
        refine ⟨_, by rw [run_slice_all w t A _ c hu, hs]; rfl, ?_⟩
        simp only [List.take_length, List.drop_zero] at hr
        exact .sl _ _ _ hr
      · rename_i k l
        cases h
        obtain ⟨rfl, h0, h1⟩ := hp
        obtain ⟨v, rfl, hv⟩ := hlo _ rfl
        cases hv
        rw [hhi' rfl]
        obtain ⟨_, hc, hr⟩ := hx.cut (l := l.toNat) (h := rows.length) (by omega) (by omega)
        refine ⟨_, by rw [run_slice_l w t A _ c hu _ _ h0 h1, hs]; rfl, ?_⟩
        simp only [List.take_length] at hr
        exact .sl _ _ _ hr
      · rename_i k l
        cases h
        obtain ⟨rfl, h0, h1⟩ := hp
        obtain ⟨v, rfl, hv⟩ := hhi _ rfl
        cases hv
        rw [hlo' rfl]
        obtain ⟨_, hc, hr⟩ := hx.cut (l := 0) (h := l.toNat) (by omega) (by omega)
        refine ⟨_, by rw [run_slice_h w t A _ c hu _ _ h0 (by omega), hs]; rfl, ?_⟩
        simp only [List.drop_zero] at hr
        exact .sl _ _ _ hr
      · rename_i k l k' h'
        cases h
        obtain ⟨rfl, h0, h1, h2⟩ := hp
        obtain ⟨v, rfl, hv⟩ := hlo _ rfl
        obtain ⟨v', rfl, hv'⟩ := hhi _ rfl
        cases hv; cases hv'
        obtain ⟨_, hc, hr⟩ := hx.cut (l := l.toNat) (h := h'.toNat) (by omega) (by omega)
        exact ⟨_, by rw [run_slice_lh w t A _ c hu _ _ _ _ h0 h1 (by omega), hs]; rfl, .sl _ _ _ hr⟩
      · cases h
    · cases h
  · have hvx : vx = .slice none 0 0 := rep_v hx
    subst hvx
    split at h
    · rename_i e k z ht
      cases h
      subst hp
      obtain ⟨⟨e1, s1⟩, rfl⟩ : ∃ q, e = q := ⟨_, rfl⟩
      obtain ⟨hu, hs⟩ := elem_of (w := w) ht
      obtain ⟨v, rfl, hv⟩ := hhi _ rfl
      cases hv
      rw [hlo' rfl, run_sliceAt_slice w t _ _ _ _ hu]
      exact ⟨_, by rw [run_slice_h w t none 0 0 hu _ _ (Int.le_refl _) (Int.le_refl _), hs]; rfl, .v _⟩
    · rename_i e k z ht
      cases h
      subst hp
      obtain ⟨⟨e1, s1⟩, rfl⟩ : ∃ q, e = q := ⟨_, rfl⟩
      obtain ⟨hu, hs⟩ := elem_of (w := w) ht
      obtain ⟨v, rfl, hv⟩ := hlo _ rfl
      cases hv
      rw [hhi' rfl, run_sliceAt_slice w t _ _ _ _ hu]
      exact ⟨_, by rw [run_slice_l w t none 0 0 hu _ _ (Int.le_refl _) (Int.le_refl _), hs]; rfl, .v _⟩
    · rename_i e ht
      cases h
      obtain ⟨⟨e1, s1⟩, rfl⟩ : ∃ q, e = q := ⟨_, rfl⟩
      obtain ⟨hu, hs⟩ := elem_of (w := w) ht
      rw [hlo' rfl, hhi' rfl, run_sliceAt_slice w t _ _ _ _ hu]
      exact ⟨_, by rw [run_slice_all w t none 0 0 hu, hs]; rfl, .v _⟩
    · cases h
  · cases h

/-- All of them at once. -/
theorem pure_run (hR : Rel m w as a) {eq : TypeId → Option (List Value)} {o : Oper} {r : AV} {p : Prop} (h : pureOp P eq as o.op = some (p, r)) (hp : p) : ∃ u, (execOp a.eval o).run P w = .ok (.value u) w ∧ Rep w m r u := by
  obtain ⟨dst, op, ty, pos, aft, gu⟩ := o
  simp only at h
  have E := ev_rep hR
  unfold pureOp at h
  split at h
  · cases h; exact ⟨_, rfl, E _⟩
  · cases h; exact ⟨_, rfl, E _⟩
  · rename_i c x y
    split at h
    · rename_i cb hc
      have e := E c
      rw [hc] at e
      have hr := pickV_rep h hp (E x) (E y)
      have e' : a.eval c = .bool cb := rep_v e
      exact ⟨_, by simp [execOp, e', asBool], hr⟩
    · cases h
  · rename_i x
    obtain ⟨⟨b, hb⟩, hr⟩ := pNil_run h (E x)
    exact ⟨.pointer (some b), by simp [execOp, hb], by rw [hb] at hr; exact hr⟩
  · obtain ⟨u, hu, hr⟩ := pBin_run h hp (E _) (E _) _ _
    exact ⟨u, by simp only [execOp]; rw [Sem.run_bind, hu]; rfl, hr⟩
  · obtain ⟨u, hu, hr⟩ := pUn_run h (E _)
    exact ⟨u, by simp only [execOp]; rw [Sem.run_bind, hu]; rfl, hr⟩
  · obtain ⟨u, hu, hr⟩ := pConv_run h hp (E _)
    exact ⟨u, by simp only [execOp]; rw [Sem.run_bind, hu]; rfl, hr⟩
  · obtain ⟨u, hu, hr⟩ := pLoad_run hR h hp (E _)
    exact ⟨u, by simp only [execOp]; rw [Sem.run_bind, hu]; rfl, hr⟩
  · obtain ⟨u, hu, hr⟩ := pFieldAddr_run h (E _)
    exact ⟨u, by simp only [execOp]; rw [Sem.run_bind, hu]; rfl, hr⟩
  · obtain ⟨u, hu, hr⟩ := pField_run h hp (E _)
    exact ⟨u, by simp only [execOp]; rw [Sem.run_bind, hu]; rfl, hr⟩
  · obtain ⟨u, hu, hr⟩ := pIndexAddr_run hR h hp (E _) (E _)
    exact ⟨u, by simp only [execOp]; rw [Sem.run_bind, hu]; rfl, hr⟩
  · obtain ⟨u, hu, hr⟩ := pIndex_run h hp (E _) (E _)
    exact ⟨u, by simp only [execOp]; rw [Sem.run_bind, hu]; rfl, hr⟩
  · obtain ⟨u, hu, hr⟩ := pExtract_run h hp (E _)
    exact ⟨u, by simp only [execOp]; rw [Sem.run_bind, hu]; rfl, hr⟩
  · rename_i g fst cap
    have hev : ∀ (l : Array Operand) i c, (evs as l.toList)[i]? = some c → Rep w m c ((l.map a.eval).getD i undef) := fun l i c hc => by
      have := evs_rep hR l.toList i c hc
      simpa [Array.getD_eq_getD_getElem?, List.getD_eq_getElem?_getD] using this
    have hx : (execOp a.eval ⟨dst, .makeFunc (.func g) fst cap, ty, pos, aft, gu⟩).run P w = .ok (.value (.func (.func g) (fst.map a.eval) (cap.map a.eval))) w := by simp [execOp, Instr.makeFunc]
    unfold pMake at h
    split at h
    · rename_i hf
      cases h
      have hf' : fst = #[] := by
        have : fst.toList = [] := by simpa [evs] using hf
        exact Array.toList_eq_nil_iff.1 this
      subst hf'
      refine ⟨_, hx, ?_⟩
      rw [Array.map_empty]
      exact .fn g _ _ (by simp [evs]) (hev cap)
    · rename_i hc _
      cases h
      have hc' : cap = #[] := by
        have : cap.toList = [] := by simpa [evs] using hc
        exact Array.toList_eq_nil_iff.1 this
      subst hc'
      refine ⟨_, hx, ?_⟩
      rw [Array.map_empty]
      exact .bf g _ _ (by simp [evs]) (hev fst)
    · cases h
  · rename_i t x lo hi
    obtain ⟨u, hu, hr⟩ := pSlice_run h hp (E x) (vlo := lo.map a.eval) (vhi := hi.map a.eval) (fun c hc => by
        obtain ⟨z, rfl, rfl⟩ := Option.map_eq_some_iff.1 hc
        exact ⟨_, rfl, E z⟩) (fun hn => by simpa using hn) (fun c hc => by
        obtain ⟨z, rfl, rfl⟩ := Option.map_eq_some_iff.1 hc
        exact ⟨_, rfl, E z⟩) (fun hn => by simpa using hn)
    exact ⟨u, by simp only [execOp, Option.map_none]; rw [Sem.run_bind, hu]; rfl, hr⟩
  · rename_i c
    obtain ⟨callee, args, atys⟩ := c
    simp only at h
    split at h
    · split at h
      · rename_i x t e1 e2
        have ea : args = #[x] := by simpa using congrArg List.toArray e1
        have et : atys = #[t] := by simpa using congrArg List.toArray e2
        subst ea; subst et
        obtain ⟨u, hu, hr⟩ := pLen_run (ty := ty) h hp (E x)
        exact ⟨u, by simp [execOp, resolve, invoke, builtin, hu], hr⟩
      · cases h
    · split at h
      · rename_i x t e1 e2
        have ea : args = #[x] := by simpa using congrArg List.toArray e1
        have et : atys = #[t] := by simpa using congrArg List.toArray e2
        subst ea; subst et
        unfold pCap at h
        split at h
        · rename_i hev
          cases h
          have ex := E x
          rw [hev] at ex
          have ex' : a.eval x = .slice none 0 0 := rep_v ex
          obtain ⟨⟨e, s⟩, he⟩ := Option.isSome_iff_exists.mp hp
          obtain ⟨hu, _⟩ := elem_of (w := w) he
          refine ⟨.int .i64 0, ?_, .v _⟩
          have hc := run_cap_slice w t ty none 0 0 hu
          simp only [execOp, resolve, invoke, builtin, Sem.run_bind, Sem.run_pure, Result.andThen_ok, List.map_toArray, List.map_cons, List.map_nil, ex', hc]
          rfl
        · cases h
      · cases h
    · unfold pMM at h
      split at h
      · rename_i x r hi _
        cases h
        have hE := ints_rep hR _ _ hi
        have e : args.map a.eval = ((x :: r).map (fun n => Value.int .i64 n)).toArray := by
          apply Array.ext'
          simpa using hE
        refine ⟨.int .i64 (r.foldl max x), ?_, .v _⟩
        simp only [execOp, resolve, invoke, builtin, Sem.run_bind, Sem.run_pure, Result.andThen_ok, e]
        simp only [Builtin.max_, List.map_cons, fold_max, Sem.run_pure, Result.andThen_ok]
      · rename_i hb; cases hb
      · cases h
    · unfold pMM at h
      split at h
      · rename_i hb; cases hb
      · rename_i x r hi _
        cases h
        have hE := ints_rep hR _ _ hi
        have e : args.map a.eval = ((x :: r).map (fun n => Value.int .i64 n)).toArray := by
          apply Array.ext'
          simpa using hE
        refine ⟨.int .i64 (r.foldl min x), ?_, .v _⟩
        simp only [execOp, resolve, invoke, builtin, Sem.run_bind, Sem.run_pure, Result.andThen_ok, e]
        simp only [Builtin.min_, List.map_cons, fold_min, Sem.run_pure, Result.andThen_ok]
      · cases h
    · cases h
  · cases h

end
end Go.Proofs.Ytfaekiaegebmbaa.Ab
