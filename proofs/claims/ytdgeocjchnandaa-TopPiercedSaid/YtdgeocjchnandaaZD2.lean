/- A blade, a saw and a piercer in bytes: plain. -/
import Derived.Test.YtdgeocjchnandaaZD1
import Derived.Test.YtdgeocjchnandaaZNC
import Derived.Test.YtdgeocjchnandaaZN9
namespace Go.Proofs.Ytdgeocjchnandaa.Ab.T01
open Go Go.RowKit
set_option linter.unusedSimpArgs false
set_option linter.unusedVariables false
theorem nthmE {α β : Type} [Inhabited α] [Inhabited β] {L : List α} (f : α → β) {i : Nat} (hi : i < L.length) : nth (L.map f) i = f (nth L i) := by
  have := nth_eq hi
  have e : (L.map f)[i]? = some (f (nth L i)) := by rw [List.getElem?_map, this]; rfl
  show (L.map f).getD i default = _
  rw [List.getD_eq_getElem?_getD, e]
  rfl
theorem possJ_max (b : Bl) (s : Sw) : ∀ {n i : Nat}, i < n → (cntP b s i : Int) ≤ (possJ b s n).1
  | n + 1, i, h => by
    rw [possJ]
    by_cases e : i = n
    · subst e
      split
      · exact Int.le_refl _
      · omega
    · have := possJ_max b s (n := n) (i := i) (by omega)
      split
      · simp only; omega
      · exact this
theorem possJ_few (b : Bl) (s : Sw) {c : Int} (hc : 0 ≤ c) (h : ∀ i, (cntP b s i : Int) ≤ c) : ∀ n, (possJ b s n).1 ≤ c
  | 0 => by rw [possJ]; simp only; omega
  | n + 1 => by
    rw [possJ]
    split
    · exact h n
    · exact possJ_few b s hc h n
theorem poss_ge {b : Bl} {s : Sw} {l : List Int} (hO : openErr b s = 0) (hl : l ∈ colsL b.cracks) : ((mostI (bestB b l) s).length : Int) ≤ (possR b s).1 := by
  obtain ⟨j, hj, rfl⟩ := List.mem_iff_getElem.1 hl
  have h := possJ_max b s hj
  unfold possR
  rw [if_pos hO]
  have e : (colsL b.cracks)[j] = nth (colsL b.cracks) j := by
    unfold nth
    simp [List.getD_eq_getElem?_getD, hj]
  rw [e]
  exact h
/-- The worst of all truths is no better than the best one. -/
theorem sure_best {b : Bl} (hn : newErr b = 0) : Bet (sureB b) (bestB b (b.cracks.map fun c => c.col.1)) := by
  obtain ⟨n0, o1, o2, l1, l2, g1, g2, g3, g4⟩ := new_ok hn
  have e1 : (sureB b).bottom.length = b.bottom.length := by simp [sureB, sureV, l1]
  refine ⟨by rw [e1]; simp [bestB, bestV, l1], fun c hc => ?_, fun c hc => ?_, fun t ht => ?_⟩
  · rw [e1] at hc
    have e2 : nth (sureB b).bottom c = (nth (newLow b) c).2 := nthmE _ (by omega)
    have e3 : nth (bestB b (b.cracks.map fun c => c.col.1)).bottom c = (nth (newLow b) c).1 := nthmE _ (by omega)
    rw [e2, e3]
    exact (o1 _ (nth_mem (by omega))).2.1
  · rw [e1] at hc
    have e2 : nth (sureB b).top c = (nth (newTop b) c).1 := nthmE _ (by omega)
    have e3 : nth (bestB b (b.cracks.map fun c => c.col.1)).top c = (nth (newTop b) c).2 := nthmE _ (by omega)
    rw [e2, e3]
    exact (o2 _ (nth_mem (by omega))).2.1
  · simp only [bestB, bestV, bestSpoils, List.mem_map, List.mem_range] at ht
    obtain ⟨i, hi, rfl⟩ := ht
    have el : nth (b.cracks.map fun c => c.col.1) i = (nth b.cracks i).col.1 := nthmE _ hi
    have hm := nth_mem hi
    have hk := g4 _ hm
    unfold isCrack isEdges isHeight isSpan at hk
    simp only [Bool.and_eq_true, decide_eq_true_eq] at hk
    rw [el]
    refine ⟨spoilOf (nth b.cracks i), List.mem_map.2 ⟨_, hm, rfl⟩, ?_, ?_, ?_, ?_⟩ <;> simp only [bestSp, spoilOf] <;> omega
theorem cols_first : ∀ {L : List Crk}, (∀ c ∈ L, c.col.1 ≤ c.col.2) → (L.map fun c => c.col.1) ∈ colsL L
  | [], _ => by simp [colsL]
  | c :: L, h => by
    have h1 := h c (by simp)
    have ih := cols_first (L := L) fun d hd => h d (by simp [hd])
    simp only [colsL, List.map_cons, List.mem_flatMap, List.mem_range, List.mem_map]
    exact ⟨0, by omega, _, ih, by simp⟩
theorem most_poss {b : Bl} {s : Sw} (hO : openErr b s = 0) (hn : newErr b = 0) (hs : sawOk s = true) : ((mostI (sureB b) s).length : Int) ≤ (possR b s).1 := by
  obtain ⟨n0, o1, o2, l1, l2, g1, g2, g3, g4⟩ := new_ok hn
  have hb := sure_best hn
  have hk : ∀ c ∈ b.cracks, c.col.1 ≤ c.col.2 := fun c hc => by
    have := g4 c hc
    unfold isCrack isSpan at this
    simp only [Bool.and_eq_true, decide_eq_true_eq] at this
    omega
  obtain ⟨m1, m2, m3⟩ := most_chain (v := sureB b) (sure_ok hn) hs
  have e1 : (bestB b (b.cracks.map fun c => c.col.1)).bottom.length = (sureB b).bottom.length := hb.len
  have := chain_most (v := bestB b (b.cracks.map fun c => c.col.1)) (best_ok hn _) hs m1 (fun p hp => by
    obtain ⟨a1, a2, a3, a4⟩ := m2 p hp
    exact ⟨a1, by rw [e1]; exact a2, a3, a4⟩) (fun p hp => sound_bet hb (m2 p hp) (m3 p hp))
  have h2 := poss_ge hO (cols_first hk)
  omega
theorem mostI_few {v : Vw} {s : Sw} (hv : v.Ok) (hs : sawOk s = true) (hl : v.bottom.length ≤ 30) : (mostI v s).length ≤ 10000 := by
  unfold sawOk at hs
  simp only [Bool.and_eq_true] at hs
  have s1 := betw1 hs.1.1
  have s3 := betw2 hs.2
  have hst : 1 ≤ stepN s := by unfold stepN; omega
  have := mostG_le (f := fun x => blockI v s x) (n := v.bottom.length) (long := s.long.toNat) (c := 301) hst (fun x hx => blockI_len hv (by omega) hx) 0
  unfold mostI
  exact Nat.le_trans this (by omega)
theorem poss_few {b : Bl} {s : Sw} (hn : newErr b = 0) (hs : sawOk s = true) : (possR b s).1 ≤ 10000 := by
  obtain ⟨n0, o1, o2, l1, l2, g1, g2, g3, g4⟩ := new_ok hn
  unfold possR
  split
  · refine possJ_few b s (by omega) (fun i => ?_) _
    have : (bestB b (nth (colsL b.cracks) i)).bottom.length ≤ 30 := by simp [bestB, bestV, l1]; omega
    have := mostI_few (best_ok hn (nth (colsL b.cracks) i)) hs this
    unfold cntP
    omega
  · simp
/-- A blade that bends enough is as it is. -/
theorem pAt_id {L : List Sp} (h : Okl L) {i : Nat} (hi : i < L.length) : pAt 300 L i = nth L i := by
  have a := h _ (nth_mem hi)
  have b := h _ (nth_mem (l := L) (i := i - 1) (by omega))
  unfold pAt meetS
  have e1 : max (nth L i).1 ((nth L (i - 1)).1 - 300) = (nth L i).1 := by omega
  have e2 : min (nth L i).2 ((nth L (i - 1)).2 + 300) = (nth L i).2 := by omega
  simp only [e1, e2]
theorem set_same {L : List Sp} {i : Nat} (hi : i < L.length) : L.set i (nth L i) = L := by
  have : nth L i = L[i] := by unfold nth; simp [List.getD_eq_getElem?_getD, hi]
  rw [this]
  exact List.set_getElem_self hi
theorem pIter_id {L : List Sp} (h : Okl L) : ∀ i, i ≤ L.length - 1 → pIter 300 L i = L
  | 0, _ => rfl
  | i + 1, hi => by
    rw [pIter, pIter_id h i (by omega), pAt_id h (by omega), set_same (by omega)]
theorem passOk_id {L : List Sp} (h : Okl L) : passOk 300 L = true := by
  unfold passOk
  rw [List.all_eq_true]
  intro i hi
  have hi := List.mem_range.1 hi
  rw [pIter_id h i (by omega), pAt_id h (by omega)]
  exact decide_eq_true (h _ (nth_mem (l := L) (i := i + 1) (by omega))).2.1
theorem pass_id {L : List Sp} (h : Okl L) : pass 300 L = L.reverse := by unfold pass; rw [pIter_id h _ (Nat.le_refl _)]
theorem okl_reverse {L : List Sp} (h : Okl L) : Okl L.reverse := fun s hs => h s (List.mem_reverse.1 hs)
theorem bent_id {L : List Sp} (h : Okl L) : bentS 300 L = some L := by
  unfold bentS
  rw [pass_id h, passOk_id h, passOk_id (okl_reverse h), pass_id (okl_reverse h), List.reverse_reverse]
  rfl
/-- A blade without a fault, that bends enough. -/
structure Good (b : Bl) : Prop where
  len : b.bottom.length = b.top.length
  n : 1 ≤ b.bottom.length ∧ b.bottom.length ≤ 30
  bend : b.bend = 300
  bot : Okl b.bottom
  top : Okl b.top
  ed : ∀ i : Nat, i < b.bottom.length → (nth b.bottom i).2 ≤ (nth b.top i).1
  few : b.cracks.length ≤ 4
  cr : ∀ c ∈ b.cracks, isCrack c b.bottom.length = true
theorem Good.new {b : Bl} (g : Good b) : newErr b = 0 ∧ newLow b = b.bottom ∧ newTop b = b.top := by
  have hf : formErr b = 0 := by
    unfold formErr
    have b1 : betw 1 30 [(b.bottom.length : Int)] = true := by have := g.n; simp [betw]; omega
    rw [if_neg (by rw [b1]; simp [g.len])]
    rw [if_neg (by have := g.few; omega)]
    have b2 : betw 0 300 [b.bend] = true := by rw [g.bend]; rfl
    have b3 : (b.cracks.any fun c => !isCrack c b.bottom.length) = false := by
      rw [List.any_eq_false]
      intro c hc
      rw [g.cr c hc]
      decide
    rw [if_neg (by rw [b2, b3]; simp)]
    have b4 : edgesOk b = true := by
      unfold edgesOk
      rw [List.all_eq_true]
      intro i hi
      have hi := List.mem_range.1 hi
      have a := g.bot _ (nth_mem hi)
      have t := g.top _ (nth_mem (l := b.top) (i := i) (by have := g.len; omega))
      have e := g.ed i hi
      unfold isEdges isHeight isSpan
      simp [betw]
      omega
    rw [b4]
    rfl
  have e : newErr b = 0 := by
    unfold newErr
    rw [hf, if_neg (by simp), g.bend, bent_id g.bot, bent_id g.top]
    rfl
  refine ⟨e, ?_, ?_⟩
  · unfold newLow
    rw [e, if_pos rfl, g.bend, bent_id g.bot]
    rfl
  · unfold newTop
    rw [e, if_pos rfl, g.bend, bent_id g.top]
    rfl
/-- The blade, the saw, the piercer. -/
structure Iv where
  cols : List (Int × Int)
  c0 : Int
  c1 : Int
  c2 : Int
  s0 : Int
  s1 : Int
  s2 : Int
  l0 : Int
  l1 : Int
def By (n : Int) : Prop := 0 ≤ n ∧ n < 256
structure Iv.Ok (x : Iv) : Prop where
  cols : ∀ c ∈ x.cols, By c.1 ∧ By c.2
  c0 : By x.c0
  c1 : By x.c1
  c2 : By x.c2
  s0 : By x.s0
  s1 : By x.s1
  s2 : By x.s2
  l0 : By x.l0
  l1 : By x.l1
def b2R (c : Int × Int) : List DV := [.v (.int .u8 c.1), .v (.int .u8 c.2)]
def ivA (x : Iv) : List AV := [.sl 2 (x.cols.map b2R), .v (.int .u8 x.c0), .v (.int .u8 x.c1), .v (.int .u8 x.c2), .v (.int .u8 x.s0), .v (.int .u8 x.s1), .v (.int .u8 x.s2), .v (.int .u8 x.l0), .v (.int .u8 x.l1)]
def nI (x : Iv) : Nat := max 1 (min 8 x.cols.length)
def colI (x : Iv) (i : Nat) : Int × Int := if i < x.cols.length then nth x.cols i else (4, 40)
def botI (v : Int × Int) : Sp := (v.1 % 30, v.1 % 30 + v.1 / 64)
def topI (v : Int × Int) : Sp := (50 + v.2 % 100 - v.2 / 64, 50 + v.2 % 100)
def crkI (x : Iv) : Crk := ⟨(x.c0 % (nI x : Int), min ((nI x : Int) - 1) (x.c0 % (nI x : Int) + 1)), (x.c1 % 100, x.c1 % 100 + 1), (x.c1 % 100 + 1, x.c1 % 100 + 2 + x.c2 % 30)⟩
def blI (x : Iv) : Bl := ⟨(List.range (nI x)).map fun i => botI (colI x i), (List.range (nI x)).map fun i => topI (colI x i), 300, [crkI x]⟩
def swI (x : Iv) : Sw := ⟨1 + x.s0 % 4, 10 + x.s1 % 30, x.s2 % 4, 0⟩
def oI (x : Iv) : Int := 2 + x.l0 % 9
def hI (x : Iv) : Int := x.l1 % (oI x + 1) / 2
theorem nI_bd (x : Iv) : 1 ≤ nI x ∧ nI x ≤ 8 := by unfold nI; omega
theorem colI_ok {x : Iv} (hx : x.Ok) (i : Nat) : By (colI x i).1 ∧ By (colI x i).2 := by
  unfold colI
  split
  · exact hx.cols _ (nth_mem (by assumption))
  · unfold By; simp only; omega
theorem botI_bd {v : Int × Int} (h : By v.1) : 0 ≤ (botI v).1 ∧ (botI v).1 ≤ (botI v).2 ∧ (botI v).2 ≤ 32 := by unfold By at h; unfold botI; simp only; omega
theorem topI_bd {v : Int × Int} (h : By v.2) : 47 ≤ (topI v).1 ∧ (topI v).1 ≤ (topI v).2 ∧ (topI v).2 ≤ 149 := by unfold By at h; unfold topI; simp only; omega
theorem saw_I {x : Iv} (hx : x.Ok) : sawOk (swI x) = true := by
  have h1 := hx.s0; have h2 := hx.s1; have h3 := hx.s2
  unfold By at h1 h2 h3
  simp [sawOk, betw, swI]
  omega
theorem loss_I {x : Iv} (hx : x.Ok) : (2 ≤ oI x ∧ oI x ≤ 10) ∧ 0 ≤ hI x ∧ hI x * 2 ≤ oI x := by
  have h1 := hx.l0; have h2 := hx.l1
  unfold By at h1 h2
  have a : 2 ≤ oI x ∧ oI x ≤ 10 := by unfold oI; omega
  have b1 := Int.emod_nonneg x.l1 (show oI x + 1 ≠ 0 by omega)
  have b2 := Int.emod_lt_of_pos x.l1 (show 0 < oI x + 1 by omega)
  refine ⟨a, ?_⟩
  unfold hI
  omega
theorem good_I {x : Iv} (hx : x.Ok) : Good (blI x) := by
  have hn := nI_bd x
  have hl : (blI x).bottom.length = nI x := by simp [blI]
  refine ⟨by simp [blI], by omega, rfl, fun s hs => ?_, fun s hs => ?_, fun i hi => ?_, by simp [blI], fun c hc => ?_⟩
  · obtain ⟨i, _, rfl⟩ := List.mem_map.1 hs
    have := botI_bd (colI_ok hx i).1
    omega
  · obtain ⟨i, _, rfl⟩ := List.mem_map.1 hs
    have := topI_bd (colI_ok hx i).2
    omega
  · rw [hl] at hi
    have e1 : nth (blI x).bottom i = botI (colI x i) := nth_range hi
    have e2 : nth (blI x).top i = topI (colI x i) := nth_range hi
    have := botI_bd (colI_ok hx i).1
    have := topI_bd (colI_ok hx i).2
    rw [e1, e2]
    omega
  · obtain rfl : c = crkI x := by simpa [blI] using hc
    rw [hl]
    have h0 := hx.c0; have h1 := hx.c1; have h2 := hx.c2
    unfold By at h0 h1 h2
    have a1 := Int.emod_nonneg x.c0 (show (nI x : Int) ≠ 0 by omega)
    have a2 := Int.emod_lt_of_pos x.c0 (show (0 : Int) < (nI x : Int) by omega)
    unfold isCrack isEdges isHeight isSpan crkI
    simp only [betw, List.all_cons, List.all_nil, Bool.and_true, Bool.and_eq_true, decide_eq_true_eq]
    omega
theorem open_I {x : Iv} (hx : x.Ok) : newErr (blI x) = 0 ∧ openErr (blI x) (swI x) = 0 := by
  have h := (good_I hx).new.1
  refine ⟨h, ?_⟩
  unfold openErr
  rw [if_neg (by rw [h]; simp), if_pos (saw_I hx)]
end Go.Proofs.Ytdgeocjchnandaa.Ab.T01
