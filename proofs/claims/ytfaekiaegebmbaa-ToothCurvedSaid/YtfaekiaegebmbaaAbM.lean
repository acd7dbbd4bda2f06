/- Code: what must be shown, and that it is enough. -/
import Derived.Test.YtfaekiaegebmbaaAbL
namespace Go.Proofs.Ytfaekiaegebmbaa.Ab
open Go Go.RowKit
set_option linter.unusedSimpArgs false
set_option linter.unusedVariables false

/-! ### regions whose order is drawn -/
def dis (a b : List Nat) : Bool := a.all fun x => !b.contains x
def chk (ops : Array Oper) (i : Nat) (fp keys : List Nat) : Nat → List (List Nat × List Nat) → Prop
  | _, [] => True
  | j, (f, c) :: l => ((dis c fp && dis c keys && dis keys f) = true ∨ reach ops j i = true) ∧ chk ops i fp keys (j + 1) l

def vcOpsD (P : Program) (eq : TypeId → Option (List Value)) (ops : Array Oper) : Nat → List Oper → List (List Nat × List Nat) → AS → (AS → Prop) → Prop
  | _, [], _, as, K => K as
  | k, o :: l, log, as, K => match o.guard with
    | none => vcOp P eq k as o fun ch r => chk ops log.length (fpt as o.op) (ch.map (·.1)) 0 log ∧ vcOpsD P eq ops (k + 8) l (log ++ [(fpt as o.op, ch.map (·.1))]) ((as.chg ch).put o.dst r) K
    | some (j, want) => match gdst ops j with
      | none => False
      | some t => onBool (as.tm t) (fun b => (b = want → vcOp P eq k (as.know t want) o fun ch r => chk ops log.length (fpt (as.know t want) o.op) (ch.map (·.1)) 0 log ∧ vcOpsD P eq ops (k + 8) l (log ++ [(fpt (as.know t want) o.op, ch.map (·.1))]) (((as.know t want).chg ch).put o.dst r) K) ∧
            (b = !want → vcOpsD P eq ops (k + 8) l (log ++ [([], [])]) ((as.know t !want).put o.dst (.v undef)) K))
          (vcOpsD P eq ops (k + 8) l (log ++ [([], [])]) (as.put o.dst (.v undef)) K)

section
variable {P : Program} {eq : TypeId → Option (List Value)} {ops : Array Oper} {k0 : Nat}

theorem know_eq {as : AS} {t : Tmp} {b : Bool} (h : as.tm t = .v (.bool b)) : as.know t b = as := by
  unfold AS.know upd
  have : (fun i => if i = t then AV.v (Value.bool b) else as.tm i) = as.tm := by
    funext i
    split
    · rename_i h'; rw [h', h]
    · rfl
  rw [this]

theorem chk_get {i : Nat} {fp keys : List Nat} : ∀ {log : List (List Nat × List Nat)} {j0 : Nat}, chk ops i fp keys j0 log → ∀ j q, log[j]? = some q → ((∀ n ∈ q.2, n ∉ fp ∧ n ∉ keys) ∧ ∀ n ∈ keys, n ∉ q.1) ∨ reach ops (j0 + j) i = true
  | [], j0, _, j, q, h => by simp at h
  | (f, c) :: l, j0, h, j, q, hq => by
    cases j with
    | zero =>
      simp at hq
      subst hq
      rcases h.1 with h1 | h1
      · simp only [Bool.and_eq_true, dis, List.all_eq_true, Bool.not_eq_true', List.contains_eq_mem, decide_eq_false_iff_not] at h1
        exact .inl ⟨fun n hn => ⟨h1.1.1 n hn, h1.1.2 n hn⟩, fun n hn => h1.2 n hn⟩
      · exact .inr h1
    | succ j =>
      have := chk_get h.2 j q (by simpa using hq)
      have e : j0 + (j + 1) = j0 + 1 + j := by omega
      rw [e]
      exact this

theorem vcOpsD_run {K : AS → Prop} : ∀ (l : List Oper) (i : Nat) (log : List (List Nat × List Nat)) (as : AS), ops.toList.drop i = l → log.length = i → vcOpsD P eq ops (k0 + 8 * i) l log as K →
    ∃ rest as', rest.length = l.length ∧ RunI P eq ops k0 (fun j => (log ++ rest).getD j ([], [])) (List.range' i l.length) as as' ∧ K as' ∧
      ∀ q j, i ≤ q → q < i + l.length → j < q → ((∀ n ∈ ((log ++ rest).getD j ([], [])).2, n ∉ ((log ++ rest).getD q ([], [])).1 ∧ n ∉ ((log ++ rest).getD q ([], [])).2) ∧ ∀ n ∈ ((log ++ rest).getD q ([], [])).2, n ∉ ((log ++ rest).getD j ([], [])).1) ∨ reach ops j q = true
  | [], i, log, as, _, _, h => ⟨[], as, rfl, rfl, h, fun q j h1 h2 _ => by simp at h2; omega⟩
  | o :: l, i, log, as, hl, hlog, h => by
    have hi : ops[i]? = some o := by
      have : (ops.toList.drop i)[0]? = some o := by rw [hl]; rfl
      rw [List.getElem?_drop] at this
      simpa using this
    have hl' : ops.toList.drop (i + 1) = l := by rw [← List.drop_drop, hl]; rfl
    have hk : k0 + 8 * i + 8 = k0 + 8 * (i + 1) := by omega
    -- one step, and the rest
    have go : ∀ (r : AV) (ch : List (Nat × Option Obj)) (fp : List Nat), (∀ Φ : Nat → List Nat × List Nat, Φ i = (fp, ch.map (·.1)) → GS P eq ops k0 Φ i o as r ch) → chk ops log.length fp (ch.map (·.1)) 0 log →
        vcOpsD P eq ops (k0 + 8 * (i + 1)) l (log ++ [(fp, ch.map (·.1))]) (nxt as o r ch) K →
        ∃ rest as', rest.length = (o :: l).length ∧ RunI P eq ops k0 (fun j => (log ++ rest).getD j ([], [])) (List.range' i (o :: l).length) as as' ∧ K as' ∧
          ∀ q j, i ≤ q → q < i + (o :: l).length → j < q → ((∀ n ∈ ((log ++ rest).getD j ([], [])).2, n ∉ ((log ++ rest).getD q ([], [])).1 ∧ n ∉ ((log ++ rest).getD q ([], [])).2) ∧ ∀ n ∈ ((log ++ rest).getD q ([], [])).2, n ∉ ((log ++ rest).getD j ([], [])).1) ∨ reach ops j q = true := by
      intro r ch fp hg hchk hv
      obtain ⟨rest, as', h1, h2, h3, h4⟩ := vcOpsD_run l (i + 1) (log ++ [(fp, ch.map (·.1))]) (nxt as o r ch) hl' (by simp [hlog]) hv
      have eL : (log ++ [(fp, ch.map (·.1))]) ++ rest = log ++ ((fp, ch.map (·.1)) :: rest) := by simp
      rw [eL] at h2 h4
      have hΦ : (log ++ ((fp, ch.map (·.1)) :: rest)).getD i ([], []) = (fp, ch.map (·.1)) := by
        rw [List.getD_eq_getElem?_getD, List.getElem?_append_right (by omega), hlog, Nat.sub_self]
        rfl
      refine ⟨(fp, ch.map (·.1)) :: rest, as', by simp [h1], ?_, h3, fun q j hq1 hq2 hj => ?_⟩
      · rw [List.length_cons, List.range'_succ]
        exact ⟨o, r, ch, hg _ hΦ, h2⟩
      · by_cases hqi : q = i
        · subst hqi
          rw [hΦ]
          have hjl : j < log.length := by omega
          have hjd : (log ++ ((fp, ch.map (·.1)) :: rest)).getD j ([], []) = log[j] := by
            rw [List.getD_eq_getElem?_getD, List.getElem?_append_left hjl, List.getElem?_eq_getElem hjl]
            rfl
          rw [hjd]
          have := chk_get hchk j log[j] (List.getElem?_eq_getElem hjl)
          rw [Nat.zero_add, hlog] at this
          exact this
        · exact h4 q j (by omega) (by rw [List.length_cons] at hq2; omega) hj
    have chk_nil : ∀ (log : List (List Nat × List Nat)) (i j0 : Nat), chk ops i [] [] j0 log := by
      intro log
      induction log with
      | nil => intro i j0; trivial
      | cons q log ih =>
        intro i j0
        obtain ⟨f, c⟩ := q
        refine ⟨.inl ?_, ih i (j0 + 1)⟩
        simp [dis]
    have goSkip : aWant ops as o = some false → vcOpsD P eq ops (k0 + 8 * (i + 1)) l (log ++ [([], [])]) (as.put o.dst (.v undef)) K → _ := fun hw hv =>
      go (.v undef) [] [] (fun Φ hΦ => ⟨hi, .inr ⟨hw, rfl, rfl, hΦ⟩⟩) (chk_nil _ _ _) hv
    unfold vcOpsD at h
    split at h
    · rename_i hg
      obtain ⟨r, ch, hs, hc, hv'⟩ := vcOp_step h
      rw [hk] at hv'
      exact go r ch (fpt as o.op) (fun Φ hΦ => ⟨hi, .inl ⟨by simp [aWant, hg], hs, hΦ⟩⟩) hc hv'
    · rename_i j want hg
      split at h
      · exact h.elim
      · rename_i t ht
        unfold onBool at h
        split at h
        · rename_i b hb
          by_cases hbw : b = want
          · have h1 := h.1 hbw
            rw [know_eq (by rw [hb, hbw])] at h1
            obtain ⟨r, ch, hs, hc, hv'⟩ := vcOp_step h1
            rw [hk] at hv'
            exact go r ch (fpt as o.op) (fun Φ hΦ => ⟨hi, .inl ⟨by simp [aWant, hg, ht, hb, hbw], hs, hΦ⟩⟩) hc hv'
          · have hbn : b = !want := by cases b <;> cases want <;> simp_all
            have h1 := h.2 hbn
            rw [know_eq (by rw [hb, hbn]), hk] at h1
            exact goSkip (by simp [aWant, hg, ht, hb, hbw]) h1
        · rename_i x hx
          rw [hk] at h
          exact goSkip (by simp [aWant, hg, ht, hx]) h
        · exact h.elim

theorem drew_rel {m : Mem} {w : World} {as : AS} {a : Act} {d : Nat} (hR : Rel m w as a) : Rel m { w with drawn := d } as a ∧ Ext w m as.ob { w with drawn := d } m as.ob := by
  refine ⟨⟨⟨hR.mr.imm, fun n o ho => ?_, hR.mr.apart⟩, hR.size, fun t => (hR.tm t).ext (fun _ h => h) (fun _ _ => rfl) (fun _ _ h => h)⟩, ?_⟩
  · obtain ⟨v, hv, hat⟩ := hR.mr.obs n o ho
    refine ⟨v, hv, ?_⟩
    exact hat.of_ext (ob := as.ob) (ob' := as.ob) (w' := { w with drawn := d }) (m' := m) ⟨fun _ h => h, fun _ h => .inl h, fun _ _ _ => rfl, fun _ _ => rfl, fun _ _ h => h, fun _ h => .inl h, rfl, rfl, rfl, Nat.le_refl _⟩ rfl (fun _ _ => rfl) (fun _ _ _ h => h)
  · exact ⟨fun _ h => h, fun _ h => .inl h, fun _ _ _ => rfl, fun _ _ => rfl, fun _ _ h => h, fun _ h => .inl h, rfl, rfl, rfl, Nat.le_refl _⟩

theorem draw_sound {s : Nat} {ro : Option Nat} {n id k : Nat} {as : AS} {K : AS → Prop} (hok : drawOk ops = true) (h : vcOpsD P eq ops k ops.toList [] as K) {m : Mem} {w : World} {a : Act} (hR : Rel m w as a) (hk : Fr k m) (hd : Aux s ro w m as.ob a.defers) {Q : Exit → Act → World → Prop}
    (hQ : ∀ as' m' w' a', K as' → Lands s ro m w as.ob (k + 8 * ops.size) as' m' w' a' → Q .normal a' w') : (Code.region id ops true).wpIn (W ro) n P Q a w := by
  obtain ⟨rest, as', h1, h2, h3, h4⟩ := vcOpsD_run (k0 := k) (eq := eq) ops.toList 0 [] as rfl rfl (by simpa using h)
  refine wpIn_region_draw fun t => ?_
  obtain ⟨hR', hE'⟩ := drew_rel (d := w.drawn + 1) hR
  have hInd : ∀ j i, j < i → i < ops.size → reach ops j i = true ∨ Ind ops (fun j => ([] ++ rest).getD j ([], [])) j i := fun j i hji hi => by
    rcases h4 i j (by omega) (by simpa using hi) hji with h5 | h5
    · have ho : ops[i]? = some ops[i] := Array.getElem?_eq_getElem hi
      have hx : ops[j]? = some (ops[j]'(by omega)) := Array.getElem?_eq_getElem (by omega)
      rcases drawOk_apart hok ho hx hji with h6 | h6
      · exact .inl h6
      · refine .inr fun x o hx' ho' => ?_
        rw [hx] at hx'
        rw [ho] at ho'
        cases hx'; cases ho'
        exact ⟨h6, h5⟩
    · exact .inl h5
  have key : ∀ (md : Region.Mode) (t : Nat), wpOpsIn (W ro) n P ops Q (Region.linearise md ops t) a { w with drawn := w.drawn + 1 } := fun md t => by
    unfold Region.linearise
    refine draw_go hok hInd md ops.size t _ (List.range' 0 ops.toList.length) as m _ a (by simp) (by simp) List.pairwise_lt_range' (fun i => ?_) (fun x o hx => ?_) h2 hR' (fun i hi q hq _ => hk q (by omega)) (fun q hq => hk q (by omega)) (hd.ext hE') (fun m' w' a' hL => hQ as' m' w' a' h3 ⟨hL.1, hL.2.1, hE'.trans hL.2.2.1, hL.2.2.2⟩)
    · simp only [List.mem_range'_1, Array.length_toList, Nat.zero_le, Nat.zero_add, true_and]
      constructor
      · intro hi
        exact ⟨hi, by simp [Array.getD, hi]⟩
      · exact fun h => h.1
    · exfalso
      have := hx.2
      simp [Array.getD, hx.1] at this
  unfold Region.schedule
  split
  · exact key _ _
  · exact key _ _

end
end Go.Proofs.Ytfaekiaegebmbaa.Ab
