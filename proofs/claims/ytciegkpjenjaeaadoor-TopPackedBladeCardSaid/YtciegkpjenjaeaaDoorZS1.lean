/- What the model makes of strings and their bytes, of a table in a package variable, of a slice of three indexes. No program in sight. -/
import Derived.Test.YtciegkpjenjaeaaDoorZAbU
import Derived.Laws.IdiomStrings
import Derived.Lib.TrailingZeros
namespace Go.Proofs.YtciegkpjenjaeaaDoor.Ab
open Go Go.RowKit
set_option linter.unusedVariables false
set_option linter.unusedSimpArgs false

section
variable {P : Program} {as : AS} {k : Nat} {t e : TypeId}

theorem op_val {m : Mem} {w : World} {as' : AS} {a : Act} (hR : Rel m w as' a) {y : Operand} {v : Value} (hop : ev as' y = ev as y) (hy : ev as y = .v v) : a.eval y = v := rep_v (by have := ev_rep hR y; rw [hop, hy] at this; exact this)

/-- the first elements of an owned slice, as a slice without room -/
theorem sem_slice3 {x h mx : Operand} {n len e' sz : Nat} {rows : List (List DV)} {k1 k2 : IntKind} {hv : Int} (hx : ev as x = .ob n len) (hob : as.ob n = some (.row e sz rows false)) (hh : ev as h = .v (.int k1 hv)) (hm : ev as mx = .v (.int k2 hv))
    (h0 : 0 < hv) (h1 : hv ≤ rows.length) (ht : elt P t = some (e', sz)) : SemStep P k (.slice t x none (some h) (some mx)) as (.pf n hv.toNat) [] := by
  intro o as' ho hop hfp m w a hR hk
  have hmx : x ∈ (Op.slice t x none (some h) (some mx)).operands.toList := by simp [Op.operands]
  have hmh : h ∈ (Op.slice t x none (some h) (some mx)).operands.toList := by simp [Op.operands]
  have hmm : mx ∈ (Op.slice t x none (some h) (some mx)).operands.toList := by simp [Op.operands]
  have hxj : ev as' x = .ob n len := by rw [hop x hmx]; exact hx
  have hob' : as'.ob n = some (.row e sz rows false) := by rw [hfp n (fpt_get rfl hmx (by rw [hx]; simp [idsOf, idA, id1]))]; exact hob
  have eh := op_val hR (hop h hmh) hh
  have em := op_val hR (hop mx hmm) hm
  have ex := ev_rep hR x
  rw [hxj] at ex
  generalize hvx : a.eval x = vx at ex
  cases ex with
  | ob _ _ A c hb hz =>
  obtain ⟨v, hv', hat⟩ := hR.mr.obs n _ hob'
  rw [hb] at hv'
  cases hv'
  obtain ⟨hu, hs⟩ := elem_of (w := w) ht
  obtain ⟨hsz, ⟨_, h00⟩ | ⟨g, cap, cur, h0', hh', hl, hc, hs', hr, h1', _, _⟩⟩ := hat
  · subst h00; simp at h1; omega
  cases h0'
  have hrun : (Instr.sliceAt t (.slice (some ⟨g, 0, none⟩) rows.length c) none (some (.int k1 hv)) (some (.int k2 hv))).run P w = .ok (.slice (some ⟨g, 0, none⟩) hv.toNat hv.toNat) w := by
    rw [run_sliceAt_slice w t _ _ _ _ hu, run_slice_hm w t _ _ c hu _ _ _ _ (by omega) (by omega) (by omega), hs]
    simp only [Result.andThen, sliced, Nat.sub_zero]
    split
    · rfl
    · simp [Addr.add]
  exact did_pure hR (by simp only [execOp, ho, hvx, eh, em, Option.map_none, Option.map_some]; rw [Sem.run_bind, hrun]; rfl) (.pf n hv.toNat rows.length c _ (by omega) hb)

/-- a place of a table in a package variable -/
theorem sem_table {y : Operand} {g : Nat} {i : Int} {kq : IntKind} {tab : List Value} (hg : (g, tab) ∈ tabs) (ha : arr P t = some (tab.length, e, 1)) (hy : ev as y = .v (.int kq i)) (h0 : 0 ≤ i) (h1 : i < tab.length) (h2 : ∀ v ∈ tab, v.oneCell' = true) :
    SemStep P k (.indexAddr t (.global g) y) as (.elp tab.length [tab.map DV.v] 0 i.toNat) [] := by
  intro o as' ho hop hfp m w a hR hk
  have hmy : y ∈ (Op.indexAddr t (.global g) y).operands.toList := by simp [Op.operands]
  have ey := op_val hR (hop y hmy) hy
  obtain ⟨hI, hc⟩ := hR.mr.imm.tab _ hg
  obtain ⟨hu, ti, hti, hts⟩ := arr_some ha
  have eg : a.eval (.global g) = .pointer (some ⟨g, 0, none⟩) := rfl
  have hget : ∀ {j : Nat}, j < tab.length → tab[j]? = some (tab.getD j undef) := fun {j} hj => by simp [List.getD, List.getElem?_eq_getElem hj]
  have hrun : (Instr.indexAt t (.pointer (some ⟨g, 0, none⟩)) (.int kq i)).run P w = .ok (.pointer (some ⟨g, 0 + (0 * tab.length + i.toNat), none⟩)) w := by
    simp [Instr.indexAt, asIntOf, run_underlying hu, Instr.sureAddr, h0, h1, run_size_of hti, hts, add_lit']
  refine did_pure hR (by simp only [execOp, ho, eg, ey]; rw [Sem.run_bind, hrun]; rfl) (.elp _ _ g 0 0 _ (fun _ j => tab.getD j undef) (by simp) (by simp) hI (fun i j hi hj => ?_) (fun i j hi hj => h2 _ (List.mem_of_getElem? (hget hj))) (fun i r j d hr hd => ?_))
  · have : i = 0 := by simpa using hi
    subst this
    rw [Nat.zero_mul, Nat.zero_add, Nat.zero_add]
    exact hc j _ (hget hj)
  · have : i = 0 := by
      have := (List.getElem?_eq_some_iff.1 hr).1
      simpa using this
    subst this
    obtain rfl : tab.map DV.v = r := by simpa using hr
    rw [List.getElem?_map, Option.map_eq_some_iff] at hd
    obtain ⟨u, hu', rfl⟩ := hd
    have : tab.getD j undef = u := by simp [List.getD, hu']
    rw [this]
    exact .v _

/-! ### strings -/
/-- a byte of a string -/
theorem sem_index {x y : Operand} {s : ByteArray} {i : Int} {kq : IntKind} {b : UInt8} (ht : P.underlying t = some .string) (hx : ev as x = .v (.string s)) (hy : ev as y = .v (.int kq i)) (h0 : 0 ≤ i) (hs : s[i.toNat]? = some b) :
    SemStep P k (.index t x y) as (.v (.int .u8 (b.toNat : Int))) [] := by
  intro o as' ho hop hfp m w a hR hk
  have ex := op_val hR (hop x (by simp [Op.operands])) hx
  have ey := op_val hR (hop y (by simp [Op.operands])) hy
  have hrun : (Instr.index t (.string s) (.int kq i)).run P w = .ok (.int .u8 (b.toNat : Int)) w := by
    simp [Instr.index, asIntOf, run_underlying ht, h0, hs]
  exact did_pure hR (by simp only [execOp, ho, ex, ey]; rw [Sem.run_bind, hrun]; rfl) (.v _)
/-- '==' of two strings -/
theorem sem_streq {u : TypeId} {x y : Operand} {s s' : ByteArray} (hx : ev as x = .v (.string s)) (hy : ev as y = .v (.string s')) : SemStep P k (.binOp .eql t x y u) as (.v (.bool (s.toList == s'.toList))) [] := by
  intro o as' ho hop hfp m w a hR hk
  have ex := op_val hR (hop x (by simp [Op.operands])) hx
  have ey := op_val hR (hop y (by simp [Op.operands])) hy
  have hrun : (do eqGuard .eql t x y (.string s) (.string s'); binOp .eql t (.string s) (.string s') : Sem Value).run P w = .ok (.bool (s.toList == s'.toList)) w := by
    simp [eqGuard, binOp, Op.stringOp]
  refine did_pure hR ?_ (.v _)
  simp only [execOp, ho, ex, ey]
  simp only [Sem.run_bind] at hrun ⊢
  simp [eqGuard, binOp, Op.stringOp]

def bR (n : Int) : List DV := [.v (.int .u8 n)]
/-- the bytes of a list of numbers -/
def strOf (L : List Int) : ByteArray := L.foldl (fun r n => r.push (UInt8.ofNat n.toNat)) ByteArray.empty
theorem cells_str {w : World} {src dst e : TypeId} {a : Addr} {cap : Nat} {L : List Int} (hs : P.underlying src = some (.slice e)) (he : P.underlying e = some (.int .u8)) (hd : P.underlying dst = some .string)
    (h : ∀ j v, (L.map (Value.int .u8))[j]? = some v → w.cell? (a.add j) = some v) : (convert src dst (.slice (some a) L.length cap)).run P w = .ok (.string (strOf L)) w := by
  rw [run_convert_bytes_string w src dst e (some a) L.length cap hs he hd]
  have hl := run_loadCells_list (P := P) w a (L.map (Value.int .u8)) h
  rw [List.length_map] at hl
  exact run_bytesToString w a L.length cap L hl
/-- 'string(b)' of data -/
theorem sem_str {src dst : TypeId} {x : Operand} {L : List Int} (hs : P.underlying src = some (.slice e)) (he : P.underlying e = some (.int .u8)) (hd : P.underlying dst = some .string) (hx : ev as x = .sl 1 (L.map bR)) :
    SemStep P k (.convert src dst x) as (.v (.string (strOf L))) [] := by
  intro o as' ho hop hfp m w a hR hk
  have ex := ev_rep hR x
  rw [hop x (by simp [Op.operands]), hx] at ex
  generalize hvx : a.eval x = vx at ex
  have hrun : (convert src dst vx).run P w = .ok (.string (strOf L)) w := by
    cases ex with
    | sl _ _ _ hd' =>
    generalize hrows : L.map bR = rows at hd'
    cases hd' with
    | sl0 _ A c hc =>
      have : L = [] := by simpa using hrows
      subst this
      rw [run_convert_bytes_string w src dst e A 0 c hs he hd]
      cases A with
      | none => simp [Conv.bytesToString, strOf]
      | some a => exact run_bytesToString w a 0 c [] (by have := run_loadCells_list (P := P) w a [] (fun j v h => by simp at h); simpa using this)
    | sl _ _ b o c cell hsz hlen hc hI hcell h1 hrep =>
      have hll : rows.length = L.length := by rw [← hrows]; simp
      rw [hll]
      refine cells_str hs he hd fun j v hj => ?_
      rw [List.getElem?_map, Option.map_eq_some_iff] at hj
      obtain ⟨z, hz, rfl⟩ := hj
      have hjl : j < L.length := (List.getElem?_eq_some_iff.1 hz).1
      have hr := hrep j (bR z) 0 (.v (.int .u8 z)) (by rw [← hrows, List.getElem?_map, hz]; rfl) rfl
      have hcc := hcell j 0 (by omega) (by omega)
      rw [rd_v hr] at hcc
      rw [Addr.add_lit, ← hcc]
      congr 2
      omega
  exact did_pure hR (by simp only [execOp, ho, hvx]; rw [Sem.run_bind, hrun]; rfl) (.v _)

/-! ### the bytes of a constant string -/
/-- The run-time's mark, behind a row's last cell. -/
theorem marked {w : World} {src : TypeId} {g n c : Nat} {cur : Array Value} (hs : P.underlying src = some (.slice e)) (he : P.underlying e = some (.int .u8)) {e2 : TypeId} (hg : w.heap[g]? = some (.cells cur e2 (0, 0))) :
    ∃ w', (convert src src (.slice (some ⟨g, 0, none⟩) n c)).run P w = .ok (.slice (some ⟨g, 0, none⟩) n c) w' ∧ w'.heap[g]? = some (.cells cur e2 (cur.size, cur.size + 1)) ∧ (∀ b, b ≠ g → w'.heap[b]? = w.heap[b]?) ∧ w'.heap.size = w.heap.size ∧ w'.os = w.os ∧ w'.tape = w.tape ∧ w'.output = w.output := by
  have hsh : w.shape? g = some (e2, cur.size) := by unfold World.shape?; rw [hg]
  have hlt : g < w.heap.size := (Array.getElem?_eq_some_iff.1 hg).1
  have hge : w.heap[g] = .cells cur e2 (0, 0) := (Array.getElem?_eq_some_iff.1 hg).2
  refine ⟨w.freeze ⟨g, cur.size, none⟩ 1, by simp [convert, run_underlying hs, run_underlying he, markStringish, hsh], ?_, fun b hb => ?_, ?_, ?_⟩
  · unfold World.freeze
    rw [if_neg (by decide)]
    simp only [Array.getElem?_eq_getElem (show g < (w.heap.modify g _).size by simpa using hlt), Array.getElem_modify, hge]
    simp
  · unfold World.freeze
    rw [if_neg (by decide)]
    simp only
    by_cases hbl : b < w.heap.size
    · rw [Array.getElem?_eq_getElem (by simpa using hbl), Array.getElem?_eq_getElem hbl, Array.getElem_modify, if_neg (fun h => hb h.symm)]
    · rw [Array.getElem?_eq_none (by simpa using hbl), Array.getElem?_eq_none (by omega)]
  · unfold World.freeze
    rw [if_neg (by decide)]
    simp
  · unfold World.freeze
    rw [if_neg (by decide)]
    exact ⟨rfl, rfl, rfl⟩
/-- to be read only: data -/
theorem sem_const {x : Operand} {n len : Nat} {L : List Int} {e2 : TypeId} (hs : P.underlying t = some (.slice e)) (he : P.underlying e = some (.int .u8)) (hx : ev as x = .ob n len) (hob : as.ob n = some (.row e2 1 (L.map bR) false)) (hL : 0 < L.length) :
    SemStep P k (.convert t t x) as (.sl 1 (L.map bR)) [(n, none)] := by
  intro o as' ho hop hfp m w a hR hk
  have hmx : x ∈ (Op.convert t t x).operands.toList := by simp [Op.operands]
  have hxj : ev as' x = .ob n len := by rw [hop x hmx]; exact hx
  have hob' : as'.ob n = some (.row e2 1 (L.map bR) false) := by rw [hfp n (fpt_get rfl hmx (by rw [hx]; simp [idsOf, idA, id1]))]; exact hob
  have ex := ev_rep hR x
  rw [hxj] at ex
  generalize hvx : a.eval x = vx at ex
  cases ex with
  | ob _ _ A c hb hz =>
  obtain ⟨v, hv', hat⟩ := hR.mr.obs n _ hob'
  rw [hb] at hv'
  cases hv'
  obtain ⟨hsz, ⟨_, h00⟩ | ⟨g, cap, cur, h0', hh', hl, hc, hs', hr, h1', _, hnI⟩⟩ := hat
  · exfalso
    have : (L.map bR).length = 0 := by rw [h00]; rfl
    rw [List.length_map] at this
    omega
  cases h0'
  obtain ⟨w', hrun, hw1, hw2, hw3, hw4, hw5, hw6⟩ := marked (n := (L.map bR).length) (c := c) hs he hh'
  have hglt : g < w.heap.size := (Array.getElem?_eq_some_iff.1 hh').1
  have ch : Chg m w as'.ob (fun i => i = n) (fun b => b = g) (fun _ => False) ⟨fun b => m.I b ∨ b = g, m.β, m.φ⟩ w' (upd as'.ob n none) := by
    refine ⟨fun b hb' => ⟨n, _, _, rfl, hob', rfl, hb, by subst hb'; rfl⟩, fun b hb' hne => hw2 b hne, by omega, hw4, hw5, hw6, fun b hb => .inl hb, fun b hb => hb.elim .inl fun h => .inr (.inl h), fun b hb => by rw [hw3]; exact hb.elim (hR.mr.imm b) (fun h => by rw [h]; exact hglt), fun _ _ h => h, fun _ _ _ => rfl, fun i p hp => ?_, fun _ _ _ _ _ _ _ hD => hD.elim⟩
    by_cases h : i = n
    · subst h; simp [upd] at hp
    · simp [upd, h] at hp
      exact .inl ⟨hp, h, fun h => h⟩
  refine ⟨_, _, w', _, by simp only [execOp, ho, hvx]; rw [Sem.run_bind, hrun]; rfl, .inl rfl, .sl _ _ _ ?_, ch.mr hR.mr, ch.ext hR.mr, fun _ _ => rfl⟩
  refine .sl _ _ g 0 c (fun i j => cur.getD (i * 1 + j) undef) hsz hl hc (.inr rfl) (fun i j hi hj => ?_) (fun i j hi hj => h1' _ (row_bound hi hj)) (fun i r j d h2 h3 => ?_)
  · rw [cell_of_row w' g _ cur e2 _ hw1]
    have := row_bound (n := c) (Nat.lt_of_lt_of_le hi hl) hj
    have h9 : i * 1 + j < cur.size := by omega
    rw [show 0 + (i * 1 + j) = i * 1 + j by omega, Array.getElem?_eq_getElem h9, Array.getD_eq_getD_getElem?, Array.getElem?_eq_getElem h9]
    rfl
  · have := hr i r j d h2 h3
    rw [List.getElem?_map, Option.map_eq_some_iff] at h2
    obtain ⟨z, _, rfl⟩ := h2
    have hd : d = .v (.int .u8 z) := by
      cases j with
      | zero => simpa [bR] using h3.symm
      | succ j => simp [bR] at h3
    subst hd
    rw [rd_v this]
    exact .v _

/-- A row of bytes that is written: behind its last cell stands the mark. -/
def Buf (L : List Int) (v : Value) (I F : Nat → Prop) (w : World) : Prop :=
  ∃ (g cap : Nat) (cur : Array Value) (e : TypeId), v = .slice (some ⟨g, 0, none⟩) L.length cap ∧ (∀ b, F b ↔ b = g) ∧ w.heap[g]? = some (.cells cur e (cur.size, cur.size + 1)) ∧ L.length ≤ cur.size ∧ ∀ (i : Nat) (x : Int), L[i]? = some x → cur[i]? = some (Value.int .u8 x)
theorem Buf.stable {L : List Int} {v : Value} {I F I' : Nat → Prop} {w w' : World} (h : Buf L v I F w) (hk : ∀ b, F b → w'.heap[b]? = w.heap[b]?) : Buf L v I' F w' := by
  obtain ⟨g, cap, cur, e, h1, h2, h3, h4, h5⟩ := h
  exact ⟨g, cap, cur, e, h1, h2, (hk g ((h2 g).2 rfl)).trans h3, h4, h5⟩
theorem sem_buf {x : Operand} {n len : Nat} {L : List Int} {e2 : TypeId} (hs : P.underlying t = some (.slice e)) (he : P.underlying e = some (.int .u8)) (hx : ev as x = .ob n len) (hob : as.ob n = some (.row e2 1 (L.map bR) false)) (hL : 0 < L.length) (hlen : len = L.length) :
    SemStep P k (.convert t t x) as (.ob n len) [(n, some (.opq (Buf L)))] := by
  intro o as' ho hop hfp m w a hR hk
  have hmx : x ∈ (Op.convert t t x).operands.toList := by simp [Op.operands]
  have hxj : ev as' x = .ob n len := by rw [hop x hmx]; exact hx
  have hob' : as'.ob n = some (.row e2 1 (L.map bR) false) := by rw [hfp n (fpt_get rfl hmx (by rw [hx]; simp [idsOf, idA, id1]))]; exact hob
  have ex := ev_rep hR x
  rw [hxj] at ex
  generalize hvx : a.eval x = vx at ex
  cases ex with
  | ob _ _ A c hb hz =>
  obtain ⟨v, hv', hat⟩ := hR.mr.obs n _ hob'
  rw [hb] at hv'
  cases hv'
  obtain ⟨hsz, ⟨_, h00⟩ | ⟨g, cap, cur, h0', hh', hl, hc, hs', hr, h1', _, hnI⟩⟩ := hat
  · exfalso
    have : (L.map bR).length = 0 := by rw [h00]; rfl
    rw [List.length_map] at this
    omega
  have hA : A = some ⟨g, 0, none⟩ := by injection h0'
  have hcc : cap = c := by injection h0' with _ _ h; exact h.symm
  subst hA
  subst hcc
  obtain ⟨w', hrun, hw1, hw2, hw3, hw4, hw5, hw6⟩ := marked (n := len) (c := cap) hs he hh'
  have hglt : g < w.heap.size := (Array.getElem?_eq_some_iff.1 hh').1
  have hnew : Buf L (.slice (some ⟨g, 0, none⟩) len cap) m.I (fun b => b = g) w' := by
    refine ⟨g, cap, cur, e2, by rw [hlen], fun b => Iff.rfl, hw1, by simp at hl; omega, fun i x hi => ?_⟩
    have := hr i (bR x) 0 (.v (.int .u8 x)) (by rw [List.getElem?_map, hi]; rfl) rfl
    have h2 := rd_v this
    simp only [Nat.mul_one, Nat.add_zero] at h2
    have hil : i < L.length := (List.getElem?_eq_some_iff.1 hi).1
    have hic : i < cur.size := by simp at hl; omega
    rw [Array.getD_eq_getD_getElem?, Array.getElem?_eq_getElem hic] at h2
    rw [Array.getElem?_eq_getElem hic]
    exact congrArg some h2
  let m' : Mem := ⟨m.I, m.β, fun i b => if i = n then b = g else m.φ i b⟩
  have ch : Chg m w as'.ob (fun i => i = n) (fun b => b = g) (fun i => i = n) m' w' (upd as'.ob n (some (.opq (Buf L)))) := by
    refine ⟨fun b hb' => ⟨n, _, _, rfl, hob', rfl, hb, by subst hb'; rfl⟩, fun b hb' hne => hw2 b hne, by omega, hw4, hw5, hw6, fun b hb => hb, fun b hb => .inl hb, fun b hb => by rw [hw3]; exact hR.mr.imm b hb, fun _ _ h => h, fun i hi _ => by funext b; simp [m', hi], fun i p hp => ?_, fun i i' _ _ _ _ _ hn hn' _ _ _ _ hne _ _ _ => absurd (hn.trans hn'.symm) hne⟩
    by_cases h : i = n
    · subst h
      simp only [upd, if_true, Option.some.injEq] at hp
      subst hp
      refine .inr ⟨rfl, _, hb, ?_, fun b _ hb' => ?_⟩
      · show OpqAt _ _ _ _ _
        have e1 : m'.φ i = fun b => b = g := by funext b; simp [m']
        unfold OpqAt
        rw [e1]
        exact ⟨hnew, fun b hb' => by subst hb'; exact ⟨by omega, hnI rfl⟩, fun I' w2 _ _ _ hk2 => hnew.stable fun b hb' => hk2 b (.inl hb')⟩
      · have : b = g := by simpa [foot, m'] using hb'
        exact .inl this
    · simp only [upd, if_neg h] at hp
      exact .inl ⟨hp, h, h⟩
  exact ⟨_, _, w', m', by simp only [execOp, ho, hvx]; rw [Sem.run_bind, hrun]; rfl, .inl rfl, .ob _ _ _ _ hb hz, ch.mr hR.mr, ch.ext hR.mr, fun _ _ => rfl⟩
/-- a place in it -/
theorem sem_bufAt {x y : Operand} {n len : Nat} {L : List Int} {kq : IntKind} {i : Int} {e' : Nat} (ht : elt P t = some (e', 1)) (hx : ev as x = .ob n len) (hob : as.ob n = some (.opq (Buf L))) (hy : ev as y = .v (.int kq i)) (h0 : 0 ≤ i) (h1 : i < L.length) :
    SemStep P k (.indexAddr t x y) as (.obp n 1 i.toNat 0) [] := by
  intro o as' ho hop hfp m w a hR hk
  have hmx : x ∈ (Op.indexAddr t x y).operands.toList := by simp [Op.operands]
  have hxj : ev as' x = .ob n len := by rw [hop x hmx]; exact hx
  have hob' : as'.ob n = some (.opq (Buf L)) := by rw [hfp n (fpt_get rfl hmx (by rw [hx]; simp [idsOf, idA, id1]))]; exact hob
  have ey := op_val hR (hop y (by simp [Op.operands])) hy
  have ex := ev_rep hR x
  rw [hxj] at ex
  generalize hvx : a.eval x = vx at ex
  cases ex with
  | ob _ _ A c hb hz =>
  obtain ⟨v, hv', hat⟩ := hR.mr.obs n _ hob'
  rw [hb] at hv'
  cases hv'
  obtain ⟨g, cap, cur, e2, hv2, h2, h3, h4, h5⟩ := hat.1
  cases hv2
  obtain ⟨hu, ti, hti, hts⟩ := elt_some ht
  have hrun : (Instr.indexAt t (.slice (some ⟨g, 0, none⟩) L.length c) (.int kq i)).run P w = .ok (.pointer (some ⟨g, i.toNat * 1 + 0, none⟩)) w := by
    simp [Instr.indexAt, asIntOf, run_underlying hu, h0, h1, run_size_of hti, hts, add_lit']
  exact did_pure hR (by simp only [execOp, ho, hvx, ey]; rw [Sem.run_bind, hrun]; rfl) (.obp _ _ _ _ g _ _ hb)
/-- a byte written in it -/
theorem sem_bufSet {x y : Operand} {n i : Nat} {L : List Int} {z : Int} (ht : tyc P t = some (false, 1)) (hx : ev as x = .obp n 1 i 0) (hob : as.ob n = some (.opq (Buf L))) (hy : ev as y = .v (.int .u8 z)) (h1 : i < L.length) :
    SemStep P k (.store t x y) as (.v undef) [(n, some (.opq (Buf (L.set i z))))] := by
  intro o as' ho hop hfp m w a hR hk
  have hmx : x ∈ (Op.store t x y).operands.toList := by simp [Op.operands]
  have hxj : ev as' x = .obp n 1 i 0 := by rw [hop x hmx]; exact hx
  have hob' : as'.ob n = some (.opq (Buf L)) := by rw [hfp n (fpt_get rfl hmx (by rw [hx]; simp [idsOf, idA, id1]))]; exact hob
  have ey := op_val hR (hop y (by simp [Op.operands])) hy
  have ex := ev_rep hR x
  rw [hxj] at ex
  generalize hvx : a.eval x = vx at ex
  cases ex with
  | obp _ _ _ _ g len c hb =>
  obtain ⟨v, hv', hat⟩ := hR.mr.obs n _ hob'
  rw [hb] at hv'
  cases hv'
  obtain ⟨g1, cap, cur, e2, hv2, h2, h3, h4, h5⟩ := hat.1
  cases hv2
  have hlt : i < cur.size := by omega
  have hcell : w.cell? ⟨g, i, none⟩ = some cur[i] := by simp [World.cell?, h3, hlt]
  have hfro : w.frozen? ⟨g, i, none⟩ = false := by
    simp only [World.frozen?, h3, Bool.and_eq_false_iff, decide_eq_false_iff_not]
    left
    omega
  have hst : (store ⟨g, i, none⟩ (.int .u8 z)).run P w = .ok () (w.setRow g (cur.setIfInBounds i (.int .u8 z))) := by
    rw [run_store P w _ _ _ rfl, hcell]
    simp [hfro, setCell_eq_setRow w g i cur e2 _ (.int .u8 z) h3]
  have hrun : (Instr.storeAt t (.pointer (some ⟨g, i * 1 + 0, none⟩)) (.int .u8 z)).run P w = .ok () (w.setRow g (cur.setIfInBounds i (.int .u8 z))) := by
    have hc : (Value.int .u8 z).cells = #[.int .u8 z] := rfl
    have hs : (storeCells ⟨g, i, none⟩ [.int .u8 z] 0).run P w = .ok () (w.setRow g (cur.setIfInBounds i (.int .u8 z))) := by
      simp [storeCells, Addr.add_lit, hst]
    simp [Instr.storeAt, Instr.sureAddr, storeVar, (tyc_isAgg ht w).2, hc, hs]
  have hset := setRow_heap w g cur (cur.setIfInBounds i (.int .u8 z)) e2 _ h3
  have hoth : ∀ b, b ≠ g → (w.setRow g (cur.setIfInBounds i (.int .u8 z))).heap[b]? = w.heap[b]? := fun b hb => setRow_other w g b _ hb
  have hsz : w.heap.size = (w.setRow g (cur.setIfInBounds i (.int .u8 z))).heap.size := by simp [World.setRow]
  have hnew : Buf (L.set i z) (.slice (some ⟨g, 0, none⟩) L.length c) m.I (m.φ n) (w.setRow g (cur.setIfInBounds i (.int .u8 z))) := by
    refine ⟨g, c, cur.setIfInBounds i (.int .u8 z), e2, by simp, h2, by rw [hset]; simp, by simp; omega, fun j x hj => ?_⟩
    by_cases hji : j = i
    · subst hji
      rw [List.getElem?_set, if_pos rfl, if_pos (by omega)] at hj
      cases hj
      simp [hlt]
    · rw [List.getElem?_set, if_neg (fun h => hji h.symm)] at hj
      have := h5 j x hj
      rw [Array.getElem?_setIfInBounds, if_neg (fun h => hji h.symm)]
      exact this
  obtain ⟨hm, hE⟩ := set_step (w' := w.setRow g (cur.setIfInBounds i (.int .u8 z))) (o' := .opq (Buf (L.set i z))) hR.mr hob' rfl hb
    (fun b _ hne => hoth b fun e1 => hne (by subst e1; exact (h2 b).2 rfl)) hsz rfl rfl rfl
    ⟨hnew, fun b hb => ⟨by rw [← hsz]; exact (hat.2.1 b hb).1, (hat.2.1 b hb).2⟩, fun I' w' hs _ _ hkk => hnew.stable fun b hb => hkk b (.inl hb)⟩ (fun b hb => hb)
  exact ⟨_, _, _, m, by simp only [execOp, ho, hvx, ey, Sem.run_bind, hrun]; rfl, .inr ⟨rfl, rfl⟩, .v _, hm, hE, fun n _ => rfl⟩
/-- 'string(b)' of it -/
theorem sem_bufStr {src dst : TypeId} {x : Operand} {n len : Nat} {L : List Int} (hs : P.underlying src = some (.slice e)) (he : P.underlying e = some (.int .u8)) (hd : P.underlying dst = some .string) (hx : ev as x = .ob n len) (hob : as.ob n = some (.opq (Buf L))) :
    SemStep P k (.convert src dst x) as (.v (.string (strOf L))) [] := by
  intro o as' ho hop hfp m w a hR hk
  have hmx : x ∈ (Op.convert src dst x).operands.toList := by simp [Op.operands]
  have hxj : ev as' x = .ob n len := by rw [hop x hmx]; exact hx
  have hob' : as'.ob n = some (.opq (Buf L)) := by rw [hfp n (fpt_get rfl hmx (by rw [hx]; simp [idsOf, idA, id1]))]; exact hob
  have ex := ev_rep hR x
  rw [hxj] at ex
  generalize hvx : a.eval x = vx at ex
  cases ex with
  | ob _ _ A c hb hz =>
  obtain ⟨v, hv', hat⟩ := hR.mr.obs n _ hob'
  rw [hb] at hv'
  cases hv'
  obtain ⟨g, cap, cur, e2, hv2, h2, h3, h4, h5⟩ := hat.1
  cases hv2
  have hrun := cells_str (P := P) (w := w) (src := src) (dst := dst) (a := ⟨g, 0, none⟩) (cap := c) (L := L) hs he hd fun j v hj => by
    rw [List.getElem?_map, Option.map_eq_some_iff] at hj
    obtain ⟨z, hz, rfl⟩ := hj
    rw [Addr.add_lit, Nat.zero_add, cell_of_row w g _ cur e2 _ h3]
    exact h5 j z hz
  exact did_pure hR (by simp only [execOp, ho, hvx]; rw [Sem.run_bind, hrun]; rfl) (.v _)
end
end Go.Proofs.YtciegkpjenjaeaaDoor.Ab
