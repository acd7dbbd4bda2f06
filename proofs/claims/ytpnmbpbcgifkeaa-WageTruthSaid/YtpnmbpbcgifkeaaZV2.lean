/- What Fill says of a right bill with some numbers unread, and with one of them put in: plain. -/
import Derived.Test.YtpnmbpbcgifkeaaZV1
namespace Go.Proofs.Ytpnmbpbcgifkeaa.Ab.T12
open Go Go.RowKit
set_option linter.unusedVariables false
set_option linter.unusedSimpArgs false
set_option maxRecDepth 100000
theorem nthM {α β : Type} [Inhabited α] [Inhabited β] {f : α → β} {l : List α} {i : Nat} (h : i < l.length) : nth (l.map f) i = f (nth l i) := by
  have := nth_eq h
  have e : (l.map f)[i]? = some (f (nth l i)) := by rw [List.getElem?_map, this]; rfl
  show (l.map f).getD i default = _
  rw [List.getD_eq_getElem?_getD, e]
  rfl
/-- The span of what the number at a place can be. -/
noncomputable def spJ (b : Bl) (j : Nat) : Int × Int := spanP (valS b (markAt b.lines.length j))
theorem fill_all {b : Bl} (h : AOk b) {L : List Nat} (hL : Inc 0 (b.lines.length * 3 + 1) L) (h4 : L.length ≤ 4) (hp : posP (rubL b L)) : fillErr (rubL b L) = 0 ∧ fillR (rubL b L) = L.map (spJ (rubL b L)) := by
  have e1 := rub_err h hL
  have e2 := rub_blots h hL
  have e : fillErr (rubL b L) = 0 := by
    unfold fillErr
    rw [if_neg (by rw [e1]; simp), if_neg (by rw [e2, List.length_map]; omega), if_pos (isPos_iff.2 hp)]
  refine ⟨e, ?_⟩
  unfold fillR
  rw [if_pos e]
  refine eq_of_nth (by show (fillT _ _).length = _; rw [fillT_len, e2, List.length_map, List.length_map]) fun i hi => ?_
  have hi2 : i < L.length := by
    have : i < (fillT (rubL b L) (blotL (rubL b L)).length).length := hi
    rw [fillT_len, e2, List.length_map] at this
    exact this
  rw [nthM hi2]
  unfold fillL fillT
  rw [nthM (by rw [List.length_range, e2, List.length_map]; exact hi2)]
  have er : nth (List.range (blotL (rubL b L)).length) i = i := by
    show (List.range _).getD i default = i
    rw [List.getD_eq_getElem?_getD, List.getElem?_range (by rw [e2, List.length_map]; exact hi2)]
    rfl
  rw [er, e2, nthM hi2]
  unfold spJ
  rw [rubL_len]
theorem span_of {b : Bl} (hl : b.lines.length ≤ 5) (hp : posP b) {j : Nat} (hj : j ≤ b.lines.length * 3) (hn : numAt b j = -1) : (∃ w ∈ allW b, numAt w j = (spJ b j).1) ∧ (∃ w ∈ allW b, numAt w j = (spJ b j).2) ∧ ∀ w ∈ allW b, (spJ b j).1 ≤ numAt w j ∧ numAt w j ≤ (spJ b j).2 := by
  have hm : markAt b.lines.length j ∈ blotL b := by
    unfold blotL blotT
    exact List.mem_map.2 ⟨j, List.mem_filter.2 ⟨List.mem_range.2 (by omega), by simp [hn]⟩, rfl⟩
  obtain ⟨hf, hz⟩ := valS_ok hp hm
  obtain ⟨m1, m2⟩ := minS_spec hf hz
  obtain ⟨x1, x2⟩ := maxS_spec hf hz
  exact ⟨(val_ways hj hn).1 m1, (val_ways hj hn).1 x1, fun w hw => ⟨m2 _ ((val_ways hj hn).2 ⟨w, hw, rfl⟩), x2 _ ((val_ways hj hn).2 ⟨w, hw, rfl⟩)⟩⟩
theorem rub_way {b : Bl} (h : AOk b) (hr : faultL b = []) {L : List Nat} (hL : Inc 0 (b.lines.length * 3 + 1) L) : b ∈ allW (rubL b L) := by
  refine right_way h hr (rubL_len L b).symm fun j hj => ?_
  rw [rubL_len] at hj
  rw [rub_num hL hj]
  split
  · exact .inl rfl
  · exact .inr rfl
theorem pos_of {b w : Bl} (h : w ∈ allW b) : posP b := pos_ways.2 (List.ne_nil_of_mem h)
/-- Fill's spans hold the truth, and each end is in some way. -/
theorem fill_truth {b : Bl} (h : AOk b) (hr : faultL b = []) {L : List Nat} (hL : Inc 0 (b.lines.length * 3 + 1) L) (h4 : L.length ≤ 4) : fillErr (rubL b L) = 0 ∧ (fillR (rubL b L)).length = L.length ∧ ∀ q, q < L.length → ((nth (fillR (rubL b L)) q).1 ≤ numAt b (nth L q) ∧ numAt b (nth L q) ≤ (nth (fillR (rubL b L)) q).2) ∧ 0 ≤ (nth (fillR (rubL b L)) q).1 ∧ (nth (fillR (rubL b L)) q).2 ≤ 12500 ∧ (∃ w ∈ allW (rubL b L), numAt w (nth L q) = (nth (fillR (rubL b L)) q).1) ∧ (∃ w ∈ allW (rubL b L), numAt w (nth L q) = (nth (fillR (rubL b L)) q).2) ∧ (∃ w ∈ allW (rubL b L), numAt w (nth L q) = numAt b (nth L q)) := by
  have hw := rub_way h hr hL
  have hp := pos_of hw
  obtain ⟨e1, e2⟩ := fill_all h hL h4 hp
  have rl := rubL_len L b
  refine ⟨e1, by rw [e2, List.length_map], fun q hq => ?_⟩
  have hj := (hL.mem _ (nth_mem hq)).2
  have hn : numAt (rubL b L) (nth L q) = -1 := by rw [rub_num hL (by omega), if_pos (nth_mem hq)]
  obtain ⟨⟨w1, a1, a2⟩, ⟨w2, b1, b2⟩, c⟩ := span_of (by rw [rl]; exact h.len) hp (j := nth L q) (by rw [rl]; omega) hn
  have en : nth (fillR (rubL b L)) q = spJ (rubL b L) (nth L q) := by rw [e2]; exact nthM hq
  rw [en]
  have d1 := way_bd (by rw [rl]; exact h.len) a1 (nth L q) (by rw [rl]; omega)
  have d2 := way_bd (by rw [rl]; exact h.len) b1 (nth L q) (by rw [rl]; omega)
  exact ⟨c b hw, by omega, by omega, ⟨w1, a1, a2⟩, ⟨w2, b1, b2⟩, ⟨b, hw, rfl⟩⟩
theorem nth_erase : ∀ {L : List Nat} {q z : Nat}, nth (L.eraseIdx q) z = nth L (if z < q then z else z + 1) := by
  intro L q z
  show (L.eraseIdx q).getD z default = L.getD _ default
  rw [List.getD_eq_getElem?_getD, List.getD_eq_getElem?_getD, List.getElem?_eraseIdx]
  split <;> rfl
/-- With one number more that can be read no span is wider. -/
theorem fill_put {b w : Bl} (h : AOk b) {L : List Nat} (hL : Inc 0 (b.lines.length * 3 + 1) L) (h4 : L.length ≤ 4) {q : Nat} (hq : q < L.length) (hw : w ∈ allW (rubL b L)) : fillErr (setN (rubL b L) (nth L q) (numAt w (nth L q))) = 0 ∧ (fillR (setN (rubL b L) (nth L q) (numAt w (nth L q)))).length + 1 = L.length ∧ ∀ z, z + 1 < L.length → (nth (fillR (rubL b L)) (if z < q then z else z + 1)).1 ≤ (nth (fillR (setN (rubL b L) (nth L q) (numAt w (nth L q)))) z).1 ∧ (nth (fillR (setN (rubL b L) (nth L q) (numAt w (nth L q)))) z).2 ≤ (nth (fillR (rubL b L)) (if z < q then z else z + 1)).2 := by
  have rl := rubL_len L b
  have hp := pos_of hw
  obtain ⟨_, e2⟩ := fill_all h hL h4 hp
  have hk := (hL.mem _ (nth_mem hq)).2
  have hm := way_most (by rw [rl]; exact h.len) hw (k := nth L q) (by rw [rl]; omega)
  rw [rl] at hm
  obtain ⟨v, hv⟩ : ∃ v, v = numAt w (nth L q) := ⟨_, rfl⟩
  rw [← hv] at hm ⊢
  have ha := aok_set h (k := nth L q) (v := v) (by omega) hm
  have sl := setN_len b (nth L q) v
  have hinc := inc_erase hL q
  have hinc2 : Inc 0 ((setN b (nth L q) v).lines.length * 3 + 1) (L.eraseIdx q) := by rw [sl]; exact hinc
  have es : setN (rubL b L) (nth L q) v = rubL (setN b (nth L q) v) (L.eraseIdx q) := by
    refine bl_ext (by rw [setN_len, rubL_len, rubL_len, sl]) fun j hj => ?_
    rw [rubL_len, sl] at hj
    rw [numAt_set (by rw [rl]; omega) (by rw [rl]; exact hj), rub_num hL hj, rub_num hinc2 (by rw [sl]; exact hj), numAt_set (by omega) hj]
    have hme := inc_nodup hL q hq j
    by_cases c : j = nth L q
    · rw [if_pos c, if_neg (by rw [hme]; exact fun h => h.2 c), if_pos c]
    · rw [if_neg c, if_neg c]
      by_cases c2 : j ∈ L
      · rw [if_pos c2, if_pos (hme.2 ⟨c2, c⟩)]
      · rw [if_neg c2, if_neg (by rw [hme]; exact fun h => c2 h.1)]
  have lenE : (L.eraseIdx q).length + 1 = L.length := by rw [List.length_eraseIdx, if_pos hq]; omega
  have l2 := rubL_len (L.eraseIdx q) (setN b (nth L q) v)
  rw [sl] at l2
  have sub : ∀ x, x ∈ allW (rubL (setN b (nth L q) v) (L.eraseIdx q)) → x ∈ allW (rubL b L) := fun x hx => by
    have xl := way_len hx
    refine right_way (way_ok (by rw [l2]; exact h.len) hx) (way_right hx) (by rw [xl, l2, rl]) fun j hj => ?_
    rw [rl] at hj
    have hxn := way_num hx (j := j) (by rw [l2]; exact hj)
    rw [← es, numAt_set (by rw [rl]; omega) (by rw [rl]; exact hj)] at hxn
    by_cases c : j = nth L q
    · left; rw [rub_num hL hj, if_pos (by rw [c]; exact nth_mem hq)]
    · rw [if_neg c] at hxn; exact hxn
  have win : w ∈ allW (rubL (setN b (nth L q) v) (L.eraseIdx q)) := by
    have wl := way_len hw
    refine right_way (way_ok (by rw [rl]; exact h.len) hw) (way_right hw) (by rw [wl, l2, rl]) fun j hj => ?_
    rw [l2] at hj
    rw [← es, numAt_set (by rw [rl]; omega) (by rw [rl]; exact hj)]
    by_cases c : j = nth L q
    · right; rw [if_pos c, hv, c]
    · rw [if_neg c]; exact way_num hw (by rw [rl]; exact hj)
  have hp2 := pos_of win
  obtain ⟨g1, g2⟩ := fill_all ha hinc2 (by omega) hp2
  rw [es]
  refine ⟨g1, by rw [g2, List.length_map]; exact lenE, fun z hz => ?_⟩
  have hz2 : z < (L.eraseIdx q).length := by omega
  have hz3 : (if z < q then z else z + 1) < L.length := by split <;> omega
  rw [g2, e2, nthM hz2, nthM hz3, nth_erase]
  obtain ⟨j, hjd⟩ : ∃ j, j = nth L (if z < q then z else z + 1) := ⟨_, rfl⟩
  have hjL : j ∈ L := by rw [hjd]; exact nth_mem hz3
  have hjE : j ∈ L.eraseIdx q := by rw [hjd, ← nth_erase]; exact nth_mem hz2
  rw [← hjd]
  have hj := (hL.mem _ hjL).2
  have n1 : numAt (rubL b L) j = -1 := by rw [rub_num hL (by omega), if_pos hjL]
  have n2 : numAt (rubL (setN b (nth L q) v) (L.eraseIdx q)) j = -1 := by rw [rub_num hinc2 (by rw [sl]; omega), if_pos hjE]
  obtain ⟨_, _, c1⟩ := span_of (by rw [rl]; exact h.len) hp (j := j) (by rw [rl]; omega) n1
  obtain ⟨⟨w1, a1, a2⟩, ⟨w2, b1, b2⟩, _⟩ := span_of (by rw [l2]; exact h.len) hp2 (j := j) (by rw [l2]; omega) n2
  have k1 := c1 _ (sub _ a1)
  have k2 := c1 _ (sub _ b1)
  omega
end Go.Proofs.Ytpnmbpbcgifkeaa.Ab.T12
