/- The steps of the memory: a new object, an object written, an object frozen, an object used up. -/
import Derived.Test.YtfaekiaegebmbaaAbD
namespace Go.Proofs.Ytfaekiaegebmbaa.Ab
open Go Go.RowKit
set_option linter.unusedSimpArgs false
set_option linter.unusedVariables false

def put {α : Type} : List α → Nat → List α → List α
  | cs, _, [] => cs
  | [], _, _ => []
  | _ :: cs, 0, n :: ns => n :: put cs 0 ns
  | c :: cs, k + 1, ns => c :: put cs k ns

theorem put_length {α : Type} : ∀ (cs : List α) (k : Nat) (ns : List α), (put cs k ns).length = cs.length
  | cs, _, [] => by simp [put]
  | [], _, _ :: _ => by simp [put]
  | _ :: cs, 0, n :: ns => by simp [put, put_length cs 0 ns]
  | c :: cs, k + 1, n :: ns => by simp [put, put_length cs k (n :: ns)]

theorem put_eq {α : Type} : ∀ (cs : List α) (k : Nat) (ns : List α), k + ns.length ≤ cs.length → put cs k ns = cs.take k ++ ns ++ cs.drop (k + ns.length)
  | cs, k, [], h => by simp [put]
  | [], k, _ :: _, h => by simp at h
  | _ :: cs, 0, n :: ns, h => by
    have := put_eq cs 0 ns (by simpa using h)
    simp [put, this]
  | c :: cs, k + 1, n :: ns, h => by
    have := put_eq cs k (n :: ns) (by simp at h ⊢; omega)
    have e : k + 1 + (n :: ns).length = (k + (n :: ns).length) + 1 := by omega
    rw [e]
    simp [put, this]

theorem put_get {α : Type} (cs : List α) (k : Nat) (ns : List α) (h : k + ns.length ≤ cs.length) (i : Nat) : (put cs k ns)[i]? = if i < k then cs[i]? else if i < k + ns.length then ns[i - k]? else cs[i]? := by
  rw [put_eq cs k ns h]
  by_cases h1 : i < k
  · rw [if_pos h1, List.append_assoc, List.getElem?_append_left (by simp; omega), List.getElem?_take, if_pos h1]
  · rw [if_neg h1, List.append_assoc, List.getElem?_append_right (by simp; omega)]
    have e : (List.take k cs).length = k := by simp; omega
    rw [e]
    by_cases h2 : i < k + ns.length
    · rw [if_pos h2, List.getElem?_append_left (by omega)]
    · rw [if_neg h2, List.getElem?_append_right (by omega), List.getElem?_drop]
      congr 1
      omega

section
variable {m : Mem} {w w' : World} {ob : Nat → Option Obj} {k n : Nat} {o o' : Obj} {v x : Value}

def Mem.bind (m : Mem) (k : Nat) (v : Value) : Mem := ⟨m.I, upd m.β k (some v), m.φ⟩

theorem bind_beta (hk : m.β k = none) : ∀ n x, m.β n = some x → (m.bind k v).β n = some x := fun n x hx => by
  by_cases h : n = k
  · subst h; rw [hk] at hx; cases hx
  · simp [Mem.bind, upd, h, hx]

/-- A new object. -/
theorem new_step (hR : MR m w ob) (hk : m.β k = none) (hh : ∀ b, b < w.heap.size → w'.heap[b]? = w.heap[b]?) (hs : w.heap.size ≤ w'.heap.size) (h1 : w'.os = w.os) (h2 : w'.tape = w.tape) (h3 : w'.output = w.output)
    (hat : ObAt w' (m.bind k v) k v o) (hb : ∀ b, foot m k v o b → w.heap.size ≤ b) : MR (m.bind k v) w' (upd ob k (some o)) ∧ Ext w m ob w' (m.bind k v) (upd ob k (some o)) := by
  have c : Chg m w ob (fun _ => False) (fun _ => False) (fun n => n = k) (m.bind k v) w' (upd ob k (some o)) := by
    refine ⟨fun b hb => hb.elim, fun b hb _ => hh b hb, hs, h1, h2, h3, fun b hb => hb, fun b hb => .inl hb, fun b hb => Nat.lt_of_lt_of_le (hR.imm b hb) hs, bind_beta hk, fun _ _ _ => rfl, fun n o' ho => ?_, fun n n' _ _ _ _ _ hn hn' _ _ _ _ hne _ _ _ => absurd (hn.trans hn'.symm) hne⟩
    by_cases h : n = k
    · subst h
      simp [upd] at ho
      subst ho
      exact .inr ⟨rfl, v, by simp [Mem.bind, upd], hat, fun b _ hb' => .inr (hb b hb')⟩
    · simp [upd, h] at ho
      exact .inl ⟨ho, fun h => h, h⟩
  exact ⟨c.mr hR, c.ext hR⟩

/-- A live object written. -/
theorem set_step (hR : MR m w ob) (hn : ob n = some o) (hl : o.live = true) (hx : m.β n = some x) (hh : ∀ b, b < w.heap.size → ¬ foot m n x o b → w'.heap[b]? = w.heap[b]?) (hs : w.heap.size = w'.heap.size) (h1 : w'.os = w.os) (h2 : w'.tape = w.tape) (h3 : w'.output = w.output)
    (hat : ObAt w' m n x o') (hf : ∀ b, foot m n x o' b → foot m n x o b) : MR m w' (upd ob n (some o')) ∧ Ext w m ob w' m (upd ob n (some o')) := by
  have c : Chg m w ob (fun i => i = n) (fun b => foot m n x o b) (fun i => i = n) m w' (upd ob n (some o')) := by
    refine ⟨fun b hb => ⟨n, o, x, rfl, hn, hl, hx, hb⟩, fun b hb hne => hh b hb hne, by omega, h1, h2, h3, fun b hb => hb, fun b hb => .inl hb, fun b hb => by rw [← hs]; exact hR.imm b hb, fun _ _ h => h, fun _ _ _ => rfl, fun i p hp => ?_, fun n n' _ _ _ _ _ hn hn' _ _ _ _ hne _ _ _ => absurd (hn.trans hn'.symm) hne⟩
    by_cases h : i = n
    · subst h
      simp [upd] at hp
      subst hp
      exact .inr ⟨rfl, x, hx, hat, fun b _ hb' => .inl (hf b hb')⟩
    · simp [upd, h] at hp
      exact .inl ⟨hp, h, h⟩
  exact ⟨c.mr hR, c.ext hR⟩

/-- Freezing. -/
def fz1 (ob : Nat → Option Obj) (n : Nat) : Nat → Option Obj := match ob n with
  | some (.row e sz rows false) => upd ob n (some (.row e sz rows true))
  | _ => ob

theorem fz_step (hR : MR m w ob) (n : Nat) : ∃ m', MR m' w (fz1 ob n) ∧ Ext w m ob w m' (fz1 ob n) ∧ m'.β = m.β ∧ m'.φ = m.φ := by
  unfold fz1
  split
  · rename_i e sz rows hn
    obtain ⟨v, hv, hat⟩ := hR.obs n _ hn
    have hat' : ObAt w ⟨fun b => m.I b ∨ blk v = some b, m.β, m.φ⟩ n v (.row e sz rows true) := by
      obtain ⟨hsz, hh⟩ := hat
      refine ⟨hsz, ?_⟩
      rcases hh with hh | ⟨g, cap, cur, rfl, hh, hl, hc, hs, hr, h1, hf, hnf⟩
      · exact .inl hh
      · exact .inr ⟨g, cap, cur, rfl, hh, hl, hc, hs, fun i r j a h2 h3 => (hr i r j a h2 h3).ext (fun b hb => .inl hb) (fun _ _ => rfl), h1, fun _ => .inr rfl, fun h => by cases h⟩
    have c : Chg m w ob (fun i => i = n) (fun b => blk v = some b) (fun i => i = n) ⟨fun b => m.I b ∨ blk v = some b, m.β, m.φ⟩ w (upd ob n (some (.row e sz rows true))) := by
      refine ⟨fun b hb => ⟨n, _, v, rfl, hn, rfl, hv, hb⟩, fun b hb hne => rfl, Nat.le_refl _, rfl, rfl, rfl, fun b hb => .inl hb, fun b hb => hb.elim .inl fun h => .inr (.inl h), fun b hb => hb.elim (hR.imm b) fun h => hat.blk_lt h, fun _ _ h => h, fun _ _ _ => rfl, fun i p hp => ?_, fun n n' _ _ _ _ _ hn hn' _ _ _ _ hne _ _ _ => absurd (hn.trans hn'.symm) hne⟩
      by_cases h : i = n
      · subst h
        simp [upd] at hp
        subst hp
        exact .inr ⟨rfl, v, hv, hat', fun b _ hb' => .inl hb'⟩
      · simp [upd, h] at hp
        exact .inl ⟨hp, h, h⟩
    exact ⟨_, c.mr hR, c.ext hR, rfl, rfl⟩
  · exact ⟨m, hR, Ext.refl _ _ _, rfl, rfl⟩

def fzs (ob : Nat → Option Obj) : List Nat → Nat → Option Obj
  | [] => ob
  | n :: l => fzs (fz1 ob n) l

theorem fzs_step (hR : MR m w ob) (l : List Nat) : ∃ m', MR m' w (fzs ob l) ∧ Ext w m ob w m' (fzs ob l) ∧ m'.β = m.β ∧ m'.φ = m.φ := by
  induction l generalizing m ob with
  | nil => exact ⟨m, hR, Ext.refl _ _ _, rfl, rfl⟩
  | cons n l ih =>
    obtain ⟨m1, h1, e1, b1, p1⟩ := fz_step hR n
    obtain ⟨m2, h2, e2, b2, p2⟩ := ih h1
    exact ⟨m2, h2, e1.trans e2, b2.trans b1, p2.trans p1⟩

/-- A live object used up, a new one made of it. -/
theorem use_step (hR : MR m w ob) (hn : ob n = some o) (hl : o.live = true) (hx : m.β n = some x) (hk : m.β k = none) (hh : ∀ b, b < w.heap.size → ¬ foot m n x o b → w'.heap[b]? = w.heap[b]?) (hs : w.heap.size ≤ w'.heap.size) (h1 : w'.os = w.os) (h2 : w'.tape = w.tape) (h3 : w'.output = w.output)
    (hat : ObAt w' (m.bind k v) k v o') (hb : ∀ b, foot m k v o' b → foot m n x o b ∨ w.heap.size ≤ b) : MR (m.bind k v) w' (upd (upd ob n none) k (some o')) ∧ Ext w m ob w' (m.bind k v) (upd (upd ob n none) k (some o')) := by
  have c : Chg m w ob (fun i => i = n) (fun b => foot m n x o b) (fun i => i = k) (m.bind k v) w' (upd (upd ob n none) k (some o')) := by
    refine ⟨fun b hb => ⟨n, o, x, rfl, hn, hl, hx, hb⟩, fun b hb hne => hh b hb hne, hs, h1, h2, h3, fun b hb => hb, fun b hb => .inl hb, fun b hb => Nat.lt_of_lt_of_le (hR.imm b hb) hs, bind_beta hk, fun _ _ _ => rfl, fun i p hp => ?_, fun n n' _ _ _ _ _ hn hn' _ _ _ _ hne _ _ _ => absurd (hn.trans hn'.symm) hne⟩
    by_cases h : i = k
    · subst h
      simp [upd] at hp
      subst hp
      exact .inr ⟨rfl, v, by simp [Mem.bind, upd], hat, fun b _ hb' => hb b hb'⟩
    · by_cases h' : i = n
      · subst h'
        simp [upd, h] at hp
      · simp [upd, h, h'] at hp
        exact .inl ⟨hp, h', h⟩
  exact ⟨c.mr hR, c.ext hR⟩

end
end Go.Proofs.Ytfaekiaegebmbaa.Ab
