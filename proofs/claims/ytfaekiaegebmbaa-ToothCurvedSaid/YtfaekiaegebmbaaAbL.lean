/- Regions whose order is drawn: the orders. -/
import Derived.Test.YtfaekiaegebmbaaAbK
namespace Go.Proofs.Ytfaekiaegebmbaa.Ab
open Go Go.RowKit
set_option linter.unusedSimpArgs false
set_option linter.unusedVariables false

/-! ### who must come before whom -/
def afterBits (rc : List Nat) (o : Oper) : Nat := o.after.toList.foldl (fun s e => if Region.binds .any e then s ||| 2 ^ e.on ||| rc.getD e.on 0 else s) 0
def closure : List Nat → List Oper → List Nat
  | rc, [] => rc
  | rc, o :: l => closure (rc ++ [afterBits rc o]) l
def reach (ops : Array Oper) (j i : Nat) : Bool := ((closure [] ops.toList).getD i 0).testBit j

theorem fold_bits (rc : List Nat) (j : Nat) : ∀ (l : List Edge) (s : Nat), (l.foldl (fun s e => if Region.binds .any e then s ||| 2 ^ e.on ||| rc.getD e.on 0 else s) s).testBit j = true → s.testBit j = true ∨ ∃ e ∈ l, Region.binds .any e = true ∧ (j = e.on ∨ (rc.getD e.on 0).testBit j = true)
  | [], s, h => .inl h
  | e :: l, s, h => by
    rw [List.foldl_cons] at h
    rcases fold_bits rc j l _ h with h1 | ⟨e', he', hb, h2⟩
    · split at h1
      · rename_i hb
        rw [Nat.testBit_or, Nat.testBit_or, Bool.or_eq_true, Bool.or_eq_true] at h1
        rcases h1 with (h1 | h1) | h1
        · exact .inl h1
        · rw [Nat.testBit_two_pow] at h1
          exact .inr ⟨e, by simp, hb, .inl (by simp at h1; exact h1.symm)⟩
        · exact .inr ⟨e, by simp, hb, .inr h1⟩
      · exact .inl h1
    · exact .inr ⟨e', by simp [he'], hb, h2⟩

theorem closure_pre : ∀ (l : List Oper) (rc : List Nat), ∃ r, closure rc l = rc ++ r ∧ ∀ i o, l[i]? = some o → (closure rc l)[rc.length + i]? = some (afterBits ((closure rc l).take (rc.length + i)) o)
  | [], rc => ⟨[], by simp [closure], fun i o h => by simp at h⟩
  | o :: l, rc => by
    obtain ⟨r, hr, hg⟩ := closure_pre l (rc ++ [afterBits rc o])
    have hr' : closure rc (o :: l) = rc ++ (afterBits rc o :: r) := by rw [show closure rc (o :: l) = closure (rc ++ [afterBits rc o]) l from rfl, hr]; simp
    refine ⟨_, hr', fun i o' h => ?_⟩
    cases i with
    | zero =>
      simp at h
      subst h
      rw [hr']
      simp
    | succ i =>
      have := hg i o' (by simpa using h)
      rw [List.length_append, List.length_singleton] at this
      have e : rc.length + (i + 1) = rc.length + 1 + i := by omega
      rw [e]
      exact this

theorem reach_step {ops : Array Oper} {j i : Nat} (h : reach ops j i = true) : ∃ o e, ops[i]? = some o ∧ e ∈ o.after ∧ Region.binds .any e = true ∧ (j = e.on ∨ (e.on < i ∧ reach ops j e.on = true)) := by
  unfold reach at h
  obtain ⟨r, hr, hg⟩ := closure_pre ops.toList []
  cases ho : ops[i]? with
  | none =>
    exfalso
    have hlen : ∀ (l : List Oper) (rc : List Nat), (closure rc l).length = rc.length + l.length := by
      intro l
      induction l with
      | nil => intro rc; rfl
      | cons o l ih => intro rc; rw [show closure rc (o :: l) = closure (rc ++ [afterBits rc o]) l from rfl, ih]; simp; omega
    have hi : ops.size ≤ i := by
      rcases Nat.lt_or_ge i ops.size with h' | h'
      · rw [Array.getElem?_eq_getElem h'] at ho; cases ho
      · exact h'
    have : (closure [] ops.toList).getD i 0 = 0 := by
      rw [List.getD_eq_getElem?_getD, List.getElem?_eq_none (by rw [hlen]; simpa using hi)]
      rfl
    rw [this] at h
    simp at h
  | some o =>
    have hgi := hg i o (by simpa using ho)
    simp only [List.length_nil, Nat.zero_add] at hgi
    rw [List.getD_eq_getElem?_getD, hgi] at h
    simp only [Option.getD_some] at h
    rcases fold_bits _ j _ _ h with h1 | ⟨e, he, hb, h2⟩
    · simp at h1
    · refine ⟨o, e, rfl, by simpa using he, hb, ?_⟩
      rcases h2 with h2 | h2
      · exact .inl h2
      · right
        rw [List.getD_eq_getElem?_getD, List.getElem?_take] at h2
        split at h2
        · rename_i hlt
          exact ⟨hlt, by rw [reach, List.getD_eq_getElem?_getD]; exact h2⟩
        · simp at h2

theorem reach_closed {ops : Array Oper} {S : Nat → Prop} (hS : ∀ x o, S x → ops[x]? = some o → ∀ e ∈ o.after, Region.binds .any e = true → S e.on) : ∀ (i j : Nat), (∀ o, ops[i]? = some o → ∀ e ∈ o.after, Region.binds .any e = true → S e.on) → reach ops j i = true → S j := by
  intro i
  induction i using Nat.strongRecOn with
  | ind i ih =>
    intro j hi h
    obtain ⟨o, e, ho, he, hb, h2⟩ := reach_step h
    have hse := hi o ho e he hb
    rcases h2 with rfl | ⟨hlt, h2⟩
    · exact hse
    · exact ih e.on hlt j (fun o' ho' => hS _ o' hse ho') h2

/-- How long a way of edges leads to an operation: found by some rounds, and then looked at. -/
def rkGo (md : Region.Mode) (old : List Nat) : List Oper → Nat → List Nat → List Nat
  | [], _, acc => acc
  | o :: l, i, acc => rkGo md old l (i + 1) (acc ++ [o.after.toList.foldl (fun s e => if Region.binds md e then max s ((if e.on < i then acc.getD e.on 0 else old.getD e.on 0) + 1) else s) 0])
def rkOf (md : Region.Mode) (l : List Oper) : List Nat :=
  let r1 := rkGo md [] l 0 []
  let r2 := rkGo md r1 l 0 []
  let r3 := rkGo md r2 l 0 []
  rkGo md r3 l 0 []
def rkOk (md : Region.Mode) (ops : Array Oper) (r : List Nat) : Bool := (List.range ops.size).all fun i => match ops[i]? with
  | none => true
  | some o => o.after.toList.all fun e => !Region.binds md e || (decide (e.on < ops.size) && decide (r.getD e.on 0 < r.getD i 0))
/-- Of a region whose order is drawn: the edges lead to no ring; of two operations of which none must come before the other none sets a temporary that the other looks at. -/
def drawOk (ops : Array Oper) : Bool :=
  let rc := closure [] ops.toList
  ((List.range ops.size).all (fun i => match ops[i]? with
    | none => true
    | some o => o.after.toList.all (fun e => !Region.binds .any e || decide (e.on < i)) && (List.range i).all fun j => (rc.getD i 0).testBit j || (match ops[j]? with
      | some x => x.apart ops o
      | none => true))) &&
  ((List.range ops.size).all (fun i => match ops[i]? with
    | none => true
    | some o => o.after.toList.all (fun e => decide (e.on < i))) ||
   rkOk .text ops (List.range ops.size) && rkOk .gc ops (rkOf .gc ops.toList))

theorem drawOk_back {ops : Array Oper} (h : drawOk ops = true) {i : Nat} {o : Oper} (ho : ops[i]? = some o) : ∀ e ∈ o.after, Region.binds .any e = true → e.on < i := by
  intro e he hb
  have hi : i < ops.size := (Array.getElem?_eq_some_iff.1 ho).1
  unfold drawOk at h
  simp only [Bool.and_eq_true] at h
  have := List.all_eq_true.1 h.1 i (by simpa using hi)
  simp only [ho, Bool.and_eq_true] at this
  have := List.all_eq_true.1 this.1 e (by simpa using he)
  simpa [hb] using this

theorem rkOk_get {md : Region.Mode} {ops : Array Oper} {r : List Nat} (h : rkOk md ops r = true) {i : Nat} {o : Oper} (ho : ops[i]? = some o) : ∀ e ∈ o.after, Region.binds md e = true → e.on < ops.size ∧ r.getD e.on 0 < r.getD i 0 := by
  intro e he hb
  have hi : i < ops.size := (Array.getElem?_eq_some_iff.1 ho).1
  have := List.all_eq_true.1 h i (by simpa using hi)
  simp only [ho] at this
  have := List.all_eq_true.1 this e (by simpa using he)
  simpa [hb] using this

/-- In whatever mode: the edges lead to no ring. -/
theorem drawOk_rank {ops : Array Oper} (h : drawOk ops = true) (md : Region.Mode) : ∃ f : Nat → Nat, ∀ (i : Nat) o, ops[i]? = some o → ∀ e ∈ o.after, Region.binds md e = true → e.on < ops.size ∧ f e.on < f i := by
  cases md with
  | any =>
    refine ⟨fun i => i, fun i o ho e he hb => ?_⟩
    have h1 := drawOk_back h ho e he hb
    have hi : i < ops.size := (Array.getElem?_eq_some_iff.1 ho).1
    exact ⟨by omega, h1⟩
  | text =>
    unfold drawOk at h
    simp only [Bool.and_eq_true, Bool.or_eq_true] at h
    rcases h.2 with h2 | h2
    · refine ⟨fun i => i, fun i o ho e he _ => ?_⟩
      have hi : i < ops.size := (Array.getElem?_eq_some_iff.1 ho).1
      have := List.all_eq_true.1 h2 i (by simpa using hi)
      simp only [ho] at this
      have := List.all_eq_true.1 this e (by simpa using he)
      simp at this
      exact ⟨by omega, this⟩
    · exact ⟨fun i => (List.range ops.size).getD i 0, fun i o ho => rkOk_get h2.1 ho⟩
  | gc =>
    unfold drawOk at h
    simp only [Bool.and_eq_true, Bool.or_eq_true] at h
    rcases h.2 with h2 | h2
    · refine ⟨fun i => i, fun i o ho e he _ => ?_⟩
      have hi : i < ops.size := (Array.getElem?_eq_some_iff.1 ho).1
      have := List.all_eq_true.1 h2 i (by simpa using hi)
      simp only [ho] at this
      have := List.all_eq_true.1 this e (by simpa using he)
      simp at this
      exact ⟨by omega, this⟩
    · exact ⟨fun i => (rkOf .gc ops.toList).getD i 0, fun i o ho => rkOk_get h2.2 ho⟩
theorem exists_min (f : Nat → Nat) : ∀ {l : List Nat}, l ≠ [] → ∃ i ∈ l, ∀ j ∈ l, f i ≤ f j
  | [], h => absurd rfl h
  | [a], _ => ⟨a, by simp, fun j hj => by simp at hj; subst hj; exact Nat.le_refl _⟩
  | a :: b :: l, _ => by
    obtain ⟨i, hi, h⟩ := exists_min f (l := b :: l) (by simp)
    by_cases hc : f a ≤ f i
    · refine ⟨a, by simp, fun j hj => ?_⟩
      rcases List.mem_cons.1 hj with rfl | hj
      · exact Nat.le_refl _
      · exact Nat.le_trans hc (h j hj)
    · refine ⟨i, List.mem_cons_of_mem _ hi, fun j hj => ?_⟩
      rcases List.mem_cons.1 hj with rfl | hj
      · omega
      · exact h j hj

theorem drawOk_apart {ops : Array Oper} (h : drawOk ops = true) {i j : Nat} {o x : Oper} (ho : ops[i]? = some o) (hx : ops[j]? = some x) (hji : j < i) : reach ops j i = true ∨ x.apart ops o = true := by
  have hi : i < ops.size := (Array.getElem?_eq_some_iff.1 ho).1
  unfold drawOk at h
  simp only [Bool.and_eq_true] at h
  have := List.all_eq_true.1 h.1 i (by simpa using hi)
  simp only [ho, Bool.and_eq_true] at this
  have := List.all_eq_true.1 this.2 j (by simpa using hji)
  simpa [hx, reach] using this

/-! ### steps that commute -/
theorem app_at (ob : Nat → Option Obj) : ∀ (c : List (Nat × Option Obj)) (n : Nat), n ∉ c.map (·.1) → app ob c n = ob n
  | [], n, _ => rfl
  | (k, o) :: c, n, h => by
    simp only [List.map_cons, List.mem_cons, not_or] at h
    show app (upd ob k o) c n = ob n
    rw [app_at (upd ob k o) c n h.2]
    simp [upd, h.1]
theorem app_mem (n : Nat) : ∀ (c : List (Nat × Option Obj)) (ob ob' : Nat → Option Obj), n ∈ c.map (·.1) → app ob c n = app ob' c n
  | [], _, _, h => by simp at h
  | (k, o) :: c, ob, ob', h => by
    show app (upd ob k o) c n = app (upd ob' k o) c n
    by_cases hn : n ∈ c.map (·.1)
    · exact app_mem n c _ _ hn
    · have : n = k := by simpa [hn] using h
      subst this
      rw [app_at _ c n hn, app_at _ c n hn]
      simp [upd]
theorem app_comm (ob : Nat → Option Obj) (c d : List (Nat × Option Obj)) (h : ∀ n ∈ c.map (·.1), n ∉ d.map (·.1)) : app (app ob c) d = app (app ob d) c := by
  funext n
  by_cases hc : n ∈ c.map (·.1)
  · rw [app_at _ d n (h n hc)]
    exact app_mem n c _ _ hc
  · rw [app_at (app ob d) c n hc]
    by_cases hd : n ∈ d.map (·.1)
    · exact app_mem n d _ _ hd
    · rw [app_at _ d n hd, app_at _ d n hd, app_at _ c n hc]

def nxt (as : AS) (o : Oper) (r : AV) (ch : List (Nat × Option Obj)) : AS := (as.chg ch).put o.dst r

theorem nxt_N (as : AS) (o : Oper) (r : AV) (ch : List (Nat × Option Obj)) : (nxt as o r ch).N = as.N := by
  unfold nxt AS.put
  split
  · split <;> rfl
  · rfl
theorem nxt_ob (as : AS) (o : Oper) (r : AV) (ch : List (Nat × Option Obj)) : (nxt as o r ch).ob = app as.ob ch := by
  unfold nxt
  rw [put_ob]; rfl
theorem nxt_tm (as : AS) (o : Oper) (r : AV) (ch : List (Nat × Option Obj)) (t : Tmp) (h : o.dst ≠ some t) : (nxt as o r ch).tm t = as.tm t := by
  unfold nxt AS.put
  split
  · rename_i d hd
    split
    · have : t ≠ d := fun e => h (by rw [hd, e])
      simp [AS.chg, upd, this]
    · rfl
  · rfl
theorem nxt_comm (as : AS) {o o' : Oper} {r r' : AV} {ch ch' : List (Nat × Option Obj)} (hd : ∀ d, o.dst = some d → o'.dst ≠ some d) (hc : ∀ n ∈ ch.map (·.1), n ∉ ch'.map (·.1)) : nxt (nxt as o r ch) o' r' ch' = nxt (nxt as o' r' ch') o r ch := by
  have hob : (nxt (nxt as o r ch) o' r' ch').ob = (nxt (nxt as o' r' ch') o r ch).ob := by
    rw [nxt_ob, nxt_ob, nxt_ob, nxt_ob, app_comm _ _ _ hc]
  have hN : (nxt (nxt as o r ch) o' r' ch').N = (nxt (nxt as o' r' ch') o r ch).N := by
    rw [nxt_N, nxt_N, nxt_N, nxt_N]
  have htm : (nxt (nxt as o r ch) o' r' ch').tm = (nxt (nxt as o' r' ch') o r ch).tm := by
    funext t
    by_cases h1 : o.dst = some t
    · have h2 := hd t h1
      rw [nxt_tm _ _ _ _ _ h2]
      unfold nxt AS.put
      rw [h1]
      simp only
      have e : ((((as.chg ch').put o'.dst r').chg ch).N) = as.N := by
        have := nxt_N as o' r' ch'
        exact this
      have e' : (as.chg ch).N = as.N := rfl
      unfold AS.put at e
      rw [e, e']
      split
      · simp [AS.chg, upd]
      · have := nxt_tm as o' r' ch' t h2
        exact this.symm
    · rw [nxt_tm (nxt as o' r' ch') o r ch t h1]
      by_cases h2 : o'.dst = some t
      · unfold nxt AS.put
        rw [h2]
        simp only
        have e : ((((as.chg ch).put o.dst r).chg ch').N) = as.N := nxt_N as o r ch
        have e' : (as.chg ch').N = as.N := rfl
        unfold AS.put at e
        rw [e, e']
        split
        · simp [AS.chg, upd]
        · exact nxt_tm as o r ch t h1
      · rw [nxt_tm _ _ _ _ _ h2, nxt_tm _ _ _ _ _ h1, nxt_tm _ _ _ _ _ h2]
  cases hA : nxt (nxt as o r ch) o' r' ch' with
  | mk tm ob N =>
    cases hB : nxt (nxt as o' r' ch') o r ch with
    | mk tm' ob' N' =>
      rw [hA, hB] at hob hN htm
      simp only at hob hN htm
      subst hob; subst hN; subst htm
      rfl

/-! ### the run in the text's order, and in another -/
/-- Is the operation wanted? -/
def aWant (ops : Array Oper) (as : AS) (o : Oper) : Option Bool := match o.guard with
  | none => some true
  | some (j, want) => match gdst ops j with
    | none => none
    | some t => match as.tm t with
      | .v (.bool b) => some (b == want)
      | .v (.tuple _) => some false
      | _ => none

def GS (P : Program) (eq : TypeId → Option (List Value)) (ops : Array Oper) (k0 : Nat) (Φ : Nat → List Nat × List Nat) (i : Nat) (o : Oper) (as : AS) (r : AV) (ch : List (Nat × Option Obj)) : Prop :=
  ops[i]? = some o ∧ ((aWant ops as o = some true ∧ Step P eq (k0 + 8 * i) o as r ch ∧ Φ i = (fpt as o.op, ch.map (·.1))) ∨ (aWant ops as o = some false ∧ r = .v undef ∧ ch = [] ∧ Φ i = ([], [])))

def RunI (P : Program) (eq : TypeId → Option (List Value)) (ops : Array Oper) (k0 : Nat) (Φ : Nat → List Nat × List Nat) : List Nat → AS → AS → Prop
  | [], as, as' => as' = as
  | i :: l, as, as' => ∃ o r ch, GS P eq ops k0 Φ i o as r ch ∧ RunI P eq ops k0 Φ l (nxt as o r ch) as'

def Ind (ops : Array Oper) (Φ : Nat → List Nat × List Nat) (j i : Nat) : Prop :=
  ∀ x o, ops[j]? = some x → ops[i]? = some o → x.apart ops o = true ∧ (∀ n ∈ (Φ j).2, n ∉ (Φ i).1 ∧ n ∉ (Φ i).2) ∧ ∀ n ∈ (Φ i).2, n ∉ (Φ j).1

section
variable {P : Program} {eq : TypeId → Option (List Value)} {ops : Array Oper} {k0 : Nat} {Φ : Nat → List Nat × List Nat}

theorem ev_eq {as as' : AS} {x : Operand} (h : ∀ t, x = .tmp t → as'.tm t = as.tm t) : ev as' x = ev as x := by
  cases x with
  | tmp t => exact h t rfl
  | _ => rfl

theorem looks_op {o : Oper} {x : Operand} {t : Tmp} (hx : x ∈ o.op.operands.toList) (ht : x = .tmp t) : t ∈ o.looksAt ops := by
  subst ht
  unfold Oper.looksAt
  exact List.mem_append_left _ (List.mem_filterMap.2 ⟨_, hx, rfl⟩)
theorem looks_guard {o : Oper} {j t : Nat} {want : Bool} (hg : o.guard = some (j, want)) (hd : gdst ops j = some t) : t ∈ o.looksAt ops := by
  unfold Oper.looksAt
  apply List.mem_append_right
  rw [hg]
  unfold gdst at hd
  simp [hd]

theorem GS.congr {i : Nat} {o : Oper} {as as' : AS} {r : AV} {ch : List (Nat × Option Obj)} (h : GS P eq ops k0 Φ i o as r ch) (ht : ∀ t ∈ o.looksAt ops, as'.tm t = as.tm t) (ho : ∀ n ∈ (Φ i).1, as'.ob n = as.ob n) : GS P eq ops k0 Φ i o as' r ch := by
  obtain ⟨hi, h⟩ := h
  have hw : aWant ops as' o = aWant ops as o := by
    unfold aWant
    cases hg : o.guard with
    | none => rfl
    | some p =>
      obtain ⟨j, want⟩ := p
      simp only
      cases hd : gdst ops j with
      | none => rfl
      | some t => simp only [ht t (looks_guard hg hd)]
  have hev : ∀ x ∈ o.op.operands.toList, ev as' x = ev as x := fun x hx => ev_eq fun t e => ht t (looks_op hx e)
  refine ⟨hi, ?_⟩
  rcases h with ⟨h1, h2, h3⟩ | ⟨h1, h2⟩
  · exact .inl ⟨by rw [hw]; exact h1, h2.congr hev (fun n hn => ho n (by rw [h3]; exact hn)), by rw [fpt_congr hev]; exact h3⟩
  · exact .inr ⟨by rw [hw]; exact h1, h2⟩

theorem GS.keys {i : Nat} {o : Oper} {as : AS} {r : AV} {ch : List (Nat × Option Obj)} (h : GS P eq ops k0 Φ i o as r ch) : (Φ i).2 = ch.map (·.1) := by
  rcases h.2 with ⟨_, _, h3⟩ | ⟨_, _, h2, h3⟩
  · rw [h3]
  · rw [h3, h2]; rfl

theorem GS.comm {i j : Nat} {x o : Oper} {as : AS} {r r' : AV} {ch ch' : List (Nat × Option Obj)} (hj : GS P eq ops k0 Φ j x as r' ch') (hi : GS P eq ops k0 Φ i o (nxt as x r' ch') r ch) (hI : Ind ops Φ j i) :
    GS P eq ops k0 Φ i o as r ch ∧ GS P eq ops k0 Φ j x (nxt as o r ch) r' ch' ∧ nxt (nxt as o r ch) x r' ch' = nxt (nxt as x r' ch') o r ch := by
  obtain ⟨hap, h1, h2⟩ := hI x o hj.1 hi.1
  obtain ⟨a1, a2, a3⟩ := Oper.apart_spec hap
  have kj := hj.keys
  have ki := hi.keys
  refine ⟨?_, ?_, ?_⟩
  · refine hi.congr (fun t ht => (nxt_tm _ _ _ _ _ fun e => a1 t e ht).symm) (fun n hn => ?_)
    rw [nxt_ob, app_at _ _ _ fun hm => (h1 n (by rw [kj]; exact hm)).1 hn]
  · refine hj.congr (fun t ht => nxt_tm _ _ _ _ _ fun e => a3 t e ht) (fun n hn => ?_)
    rw [nxt_ob, app_at _ _ _ fun hm => h2 n (by rw [ki]; exact hm) hn]
  · exact nxt_comm as (fun d hd => a2 d |> fun h => fun e => h e hd) (fun n hn hm => (h1 n (by rw [kj]; exact hm)).2 (by rw [ki]; exact hn))

theorem RunI.pull {i : Nat} : ∀ {R1 R2 : List Nat} {as as' : AS}, RunI P eq ops k0 Φ (R1 ++ i :: R2) as as' → (∀ j ∈ R1, Ind ops Φ j i) → ∃ o r ch, GS P eq ops k0 Φ i o as r ch ∧ RunI P eq ops k0 Φ (R1 ++ R2) (nxt as o r ch) as'
  | [], R2, as, as', h, _ => h
  | j :: R1, R2, as, as', h, hI => by
    obtain ⟨x, r', ch', hj, hrest⟩ := h
    obtain ⟨o, r, ch, hi, hrun⟩ := RunI.pull hrest fun q hq => hI q (by simp [hq])
    obtain ⟨g1, g2, g3⟩ := GS.comm hj hi (hI j (by simp))
    exact ⟨o, r, ch, g1, x, r', ch', g2, by rw [g3]; exact hrun⟩

theorem sorted_lt {R1 R2 : List Nat} {i : Nat} (h : (R1 ++ i :: R2).Pairwise (· < ·)) : (∀ j ∈ R1, j < i) ∧ (∀ j ∈ R2, i < j) ∧ (R1 ++ R2).Pairwise (· < ·) := by
  rw [List.pairwise_append] at h
  obtain ⟨h1, h2, h3⟩ := h
  rw [List.pairwise_cons] at h2
  refine ⟨fun j hj => h3 j hj i (by simp), h2.1, ?_⟩
  rw [List.pairwise_append]
  exact ⟨h1, h2.2, fun a ha b hb => h3 a ha b (by simp [hb])⟩

theorem GS.sound {i : Nat} {o : Oper} {as : AS} {r : AV} {ch : List (Nat × Option Obj)} (h : GS P eq ops k0 Φ i o as r ch) {m : Mem} {w : World} {a : Act} (hR : Rel m w as a) (hk : ∀ n, k0 + 8 * i ≤ n → n < k0 + 8 * i + 8 → m.β n = none) {s : Nat} {ro : Option Nat} {n : Nat} (hd : Aux s ro w m as.ob a.defers) {Q : Exit → Act → World → Prop} {next : Act → World → Prop}
    (hnext : ∀ m' w' a', Rel m' w' (nxt as o r ch) a' → Ext w m as.ob w' m' (nxt as o r ch).ob → (∀ n, ¬ (k0 + 8 * i ≤ n ∧ n < k0 + 8 * i + 8) → m'.β n = m.β n) → Aux s ro w' m' (nxt as o r ch).ob a'.defers → next a' w') :
    if Region.wanted o (yielded ops a.tmps) then o.wpIn (W ro) n P a w next Q else (∀ f, o.about P w a.eval = some f → (W ro).fn f) ∧ next (a.put o.dst undef) w := by
  obtain ⟨hi, h⟩ := h
  rcases h with ⟨h1, h2, _⟩ | ⟨h1, rfl, rfl, _⟩
  · have hw : Region.wanted o (yielded ops a.tmps) = true := by
      unfold aWant at h1
      split at h1
      · rename_i hg; simp [Region.wanted, hg]
      · rename_i j want hg
        split at h1
        · cases h1
        · rename_i t ht
          split at h1
          · rename_i b hb
            rw [wanted_of hR hg ht hb]
            simpa using h1
          · cases h1
          · cases h1
    rw [if_pos hw]
    exact h2.sound hR hk fun u w' m' hr hm he hb => hnext m' w' _ (put_rep hR hm he hr o.dst) (by rw [nxt_ob]; exact he) hb (by rw [put_defers, nxt_ob]; exact hd.ext he)
  · have hw : Region.wanted o (yielded ops a.tmps) = false := by
      unfold aWant at h1
      split at h1
      · cases h1
      · rename_i j want hg
        split at h1
        · cases h1
        · rename_i t ht
          split at h1
          · rename_i b hb
            rw [wanted_of hR hg ht hb]
            simpa using h1
          · rename_i x hx
            exact unwanted_of hR hg ht hx
          · cases h1
    rw [if_neg (by simp [hw])]
    exact ⟨fun _ _ => trivial, hnext m w _ (put_rel hR o.dst (.v _)) (by rw [nxt_ob]; exact Ext.refl _ _ _) (fun _ _ => rfl) (by rw [put_defers, nxt_ob]; exact hd)⟩

/-- Every order. -/
theorem draw_go {s : Nat} {ro : Option Nat} {n : Nat} {Q : Exit → Act → World → Prop} (hok : drawOk ops = true) (hInd : ∀ j i, j < i → i < ops.size → reach ops j i = true ∨ Ind ops Φ j i) {as' : AS} (md : Region.Mode) :
    ∀ (fuel t : Nat) (listed : Array Bool) (R : List Nat) (as : AS) (m : Mem) (w : World) (a : Act), R.length ≤ fuel → listed.size = ops.size → R.Pairwise (· < ·) → (∀ i, i ∈ R ↔ i < ops.size ∧ listed.getD i true = false) →
      (∀ x o, (x < ops.size ∧ listed.getD x true = true) → ops[x]? = some o → ∀ e ∈ o.after, Region.binds .any e = true → e.on < ops.size ∧ listed.getD e.on true = true) →
      RunI P eq ops k0 Φ R as as' → Rel m w as a → (∀ i ∈ R, ∀ q, k0 + 8 * i ≤ q → q < k0 + 8 * i + 8 → m.β q = none) → Fr (k0 + 8 * ops.size) m → Aux s ro w m as.ob a.defers →
      (∀ m' w' a', Lands s ro m w as.ob (k0 + 8 * ops.size) as' m' w' a' → Q .normal a' w') → wpOpsIn (W ro) n P ops Q (Region.linearise.go md ops fuel t listed []) a w := by
  intro fuel
  have fin : ∀ (R : List Nat) (as : AS) (m : Mem) (w : World) (a : Act), R = [] → RunI P eq ops k0 Φ R as as' → Rel m w as a → Fr (k0 + 8 * ops.size) m → Aux s ro w m as.ob a.defers → (∀ m' w' a', Lands s ro m w as.ob (k0 + 8 * ops.size) as' m' w' a' → Q .normal a' w') → Q .normal a w := by
    intro R as m w a hR hrun hrel hfr hd hQ
    subst hR
    cases hrun
    exact hQ m w a ⟨hrel, hfr, Ext.refl _ _ _, hd⟩
  induction fuel with
  | zero =>
    intro t listed R as m w a hlen _ _ _ _ hrun hrel _ hfr hd hQ
    simpa [Region.linearise.go, wpOpsIn] using fin R as m w a (List.eq_nil_of_length_eq_zero (by omega)) hrun hrel hfr hd hQ
  | succ fuel ih =>
    intro t listed R as m w a hlen hsz hsort hmem hclosed hrun hrel hk hfr hd hQ
    simp only [Region.linearise.go]
    change wpOpsIn (W ro) n P ops Q (match (Region.ready md ops listed)[t % (Region.ready md ops listed).length]? with
      | some i => Region.linearise.go md ops fuel (t / (Region.ready md ops listed).length) (listed.setIfInBounds i true) [i]
      | none => [].reverse) a w
    have hbind : ∀ e : Edge, Region.binds .any e = true → Region.binds md e = true := by
      intro e he
      unfold Region.binds at he ⊢
      split <;> simp_all
    have hready : ∀ i, i ∈ Region.ready md ops listed ↔ i < ops.size ∧ listed.getD i true = false ∧ ∃ o, ops[i]? = some o ∧ ∀ e ∈ o.after, Region.binds md e = true → listed.getD e.on false = true := by
      intro i
      unfold Region.ready
      simp only [List.mem_filter, List.mem_range, Bool.and_eq_true, Bool.not_eq_true']
      constructor
      · rintro ⟨h1, h2, h3⟩
        have ho : ops[i]? = some ops[i] := Array.getElem?_eq_getElem h1
        rw [ho] at h3
        simp only [Option.map_some, Option.getD_some, Array.all_eq_true_iff_forall_mem, Bool.or_eq_true, Bool.not_eq_true'] at h3
        refine ⟨h1, h2, _, ho, fun e he hb => ?_⟩
        rcases h3 e he with h | h
        · rw [hb] at h; cases h
        · exact h
      · rintro ⟨h1, h2, o, ho, h3⟩
        refine ⟨h1, h2, ?_⟩
        rw [ho]
        simp only [Option.map_some, Option.getD_some, Array.all_eq_true_iff_forall_mem, Bool.or_eq_true, Bool.not_eq_true']
        intro e he
        cases hb : Region.binds md e with
        | false => exact .inl rfl
        | true => exact .inr (h3 e he hb)
    cases hi : (Region.ready md ops listed)[t % (Region.ready md ops listed).length]? with
    | none =>
      have hnil : Region.ready md ops listed = [] := by
        cases hr : Region.ready md ops listed with
        | nil => rfl
        | cons x xs =>
          rw [hr] at hi
          have hlt : t % (x :: xs).length < (x :: xs).length := Nat.mod_lt _ (by simp)
          rw [List.getElem?_eq_none_iff] at hi
          omega
      have hR : R = [] := by
        by_cases hRn : R = []
        · exact hRn
        · exfalso
          obtain ⟨f, hf⟩ := drawOk_rank hok md
          obtain ⟨i0, hi0, hmin⟩ := exists_min f hRn
          have h0 := (hmem i0).1 hi0
          have ho : ops[i0]? = some ops[i0] := Array.getElem?_eq_getElem h0.1
          have : i0 ∈ Region.ready md ops listed := by
            refine (hready i0).2 ⟨h0.1, h0.2, _, ho, fun e he hbe => ?_⟩
            obtain ⟨hes, hlt⟩ := hf i0 _ ho e he hbe
            have hnot : e.on ∉ R := fun hm => by
              have := hmin _ hm
              omega
            have hel : e.on < listed.size := by omega
            have : listed.getD e.on true = true := by
              cases hb : listed.getD e.on true with
              | true => rfl
              | false => exact absurd ((hmem e.on).2 ⟨by omega, hb⟩) hnot
            simpa [Array.getD, hel] using this
          rw [hnil] at this
          simp at this
      simpa [wpOpsIn] using fin R as m w a hR hrun hrel hfr hd hQ
    | some i =>
      simp only []
      rw [linearise_go_acc, List.reverse_singleton, List.singleton_append]
      obtain ⟨h1, h2, o, ho, h3⟩ := (hready i).1 (List.mem_of_getElem? hi)
      have hiR : i ∈ R := (hmem i).2 ⟨h1, h2⟩
      obtain ⟨R1, R2, rfl⟩ := List.append_of_mem hiR
      obtain ⟨s1, s2, s3⟩ := sorted_lt hsort
      have gd2 : ∀ x, x < ops.size → listed.getD x false = listed.getD x true := fun x hx => by
        have : x < listed.size := by omega
        simp [Array.getD, this]
      have h3' : ∀ e ∈ o.after, Region.binds .any e = true → e.on < ops.size ∧ listed.getD e.on true = true := fun e he hb => by
        have hlt := drawOk_back hok ho e he hb
        have := h3 e he (hbind e hb)
        rw [gd2 _ (by omega)] at this
        exact ⟨by omega, this⟩
      have hInd' : ∀ j ∈ R1, Ind ops Φ j i := fun j hj => by
        rcases hInd j i (s1 j hj) h1 with h | h
        · exfalso
          have := reach_closed (S := fun x => x < ops.size ∧ listed.getD x true = true) hclosed i j (fun o' ho' => by rw [ho] at ho'; cases ho'; exact h3') h
          have hj' := (hmem j).1 (by simp [hj])
          rw [hj'.2] at this
          exact absurd this.2 (by simp)
        · exact h
      obtain ⟨o', r, ch, hg, hrest⟩ := hrun.pull hInd'
      have hoo : o' = o := by have := hg.1; rw [ho] at this; exact (Option.some.inj this).symm
      subst hoo
      have hls : ∀ x, (listed.setIfInBounds i true).getD x true = if x = i then true else listed.getD x true := fun x => by
        rw [Array.getD_eq_getD_getElem?, Array.getElem?_setIfInBounds]
        by_cases hx : i = x
        · subst hx
          rw [if_pos rfl, if_pos rfl, if_pos (by omega)]
          rfl
        · rw [if_neg hx, if_neg (Ne.symm hx), ← Array.getD_eq_getD_getElem?]
      unfold wpOpsIn
      rw [ho]
      simp only
      refine hg.sound hrel (hk i hiR) hd fun m' w' a' hrel' he hb hd' => ?_
      have hlands : ∀ m2 w2 a2, Lands s ro m' w' (nxt as o' r ch).ob (k0 + 8 * ops.size) as' m2 w2 a2 → Q .normal a2 w2 := fun m2 w2 a2 hL => hQ m2 w2 a2 ⟨hL.1, hL.2.1, he.trans hL.2.2.1, hL.2.2.2⟩
      refine ih _ (listed.setIfInBounds i true) (R1 ++ R2) (nxt as o' r ch) m' w' a' (by simp at hlen ⊢; omega) (by simpa using hsz) s3 (fun x => ?_) (fun x o2 hx ho2 e he2 hb2 => ?_) hrest hrel' (fun x hx q hq1 hq2 => ?_) (fun q hq => ?_) hd' hlands
      · rw [hls]
        constructor
        · intro hx
          have hx' := (hmem x).1 (by rcases List.mem_append.1 hx with h | h <;> simp [h])
          have hne : x ≠ i := by
            rcases List.mem_append.1 hx with h | h
            · have := s1 x h; omega
            · have := s2 x h; omega
          rw [if_neg hne]
          exact hx'
        · rintro ⟨hx1, hx2⟩
          split at hx2
          · cases hx2
          · rename_i hne
            have := (hmem x).2 ⟨hx1, hx2⟩
            rcases List.mem_append.1 this with h | h
            · exact List.mem_append_left _ h
            · rcases List.mem_cons.1 h with h | h
              · exact absurd h hne
              · exact List.mem_append_right _ h
      · rw [hls]
        rw [hls] at hx
        by_cases hxi : x = i
        · subst hxi
          rw [ho] at ho2
          cases ho2
          have := h3' e he2 hb2
          refine ⟨this.1, ?_⟩
          split
          · rfl
          · exact this.2
        · rw [if_neg hxi] at hx
          have := hclosed x o2 hx ho2 e he2 hb2
          refine ⟨this.1, ?_⟩
          split
          · rfl
          · exact this.2
      · have hxR : x ∈ R1 ++ i :: R2 := by rcases List.mem_append.1 hx with h | h <;> simp [h]
        have hne : x ≠ i := by
          rcases List.mem_append.1 hx with h | h
          · have := s1 x h; omega
          · have := s2 x h; omega
        rw [hb q (by omega)]
        exact hk x hxR q hq1 hq2
      · rw [hb q (by omega)]
        exact hfr q hq

end
end Go.Proofs.Ytfaekiaegebmbaa.Ab
