/- Contracts of the outworkers' reference: what must be brought back. -/
import Derived.Test.YtfnohamcmidgbaaZE3
namespace Go.Proofs.Ytfnohamcmidgbaa.Ab.T07
open Go Go.RowKit
set_option linter.unusedVariables false
set_option linter.unusedSimpArgs false
set_option maxRecDepth 100000
/-- What is known when something more was brought back. -/
def bookQ (b : List En) (w s c : Int) : List En := b ++ [⟨w, 2, s, c⟩]
def leftK (h : Hs) (b : List En) (w s c : Int) : Kn := knI (acc h (bookQ b w s c) w s nof)
theorem accN_app {h : Hs} {b : List En} {x : En} {w s : Int} : ∀ n, n ≤ b.length → accN h (b ++ [x]) w s nof n = accN h b w s nof n
  | 0, _ => rfl
  | n + 1, hn => by
    rw [accN, accN, accN_app n (by omega)]
    congr 1
    unfold nth
    simp only [List.getD_eq_getElem?_getD]
    rw [List.getElem?_append_left (by omega)]
theorem acc_app (h : Hs) (b : List En) (w s c : Int) : acc h (bookQ b w s c) w s nof = { acc h b w s nof with b1 := (acc h b w s nof).b1 + max 0 (c - h.sc), b2 := (acc h b w s nof).b2 + (c + h.sc) } := by
  have hl : (bookQ b w s c).length = b.length + 1 := by simp [bookQ]
  have hn : nth (bookQ b w s c) b.length = ⟨w, 2, s, c⟩ := by unfold bookQ nth; simp [List.getD_eq_getElem?_getD]
  unfold acc
  rw [hl, accN, hn]
  unfold bookQ
  rw [accN_app _ (Nat.le_refl _)]
  unfold accS cnt wgt nof
  simp
theorem left_high (h : Hs) (b : List En) (w s c : Int) : high (acc h (bookQ b w s c) w s nof) = high (acc h b w s nof) - max 0 (c - h.sc) := by
  rw [acc_app]
  simp only [high]
  omega
theorem left_t (h : Hs) (b : List En) (w s c : Int) : (leftK h b w s c).t = decide (0 ≤ high (acc h b w s nof) - max 0 (c - h.sc)) := by
  unfold leftK
  rw [knI_t, left_high]
theorem left_h (h : Hs) (b : List En) (w s c : Int) (ht : 0 ≤ high (acc h b w s nof) - max 0 (c - h.sc)) : (leftK h b w s c).h.2 = high (acc h b w s nof) - max 0 (c - h.sc) ∧ (leftK h b w s c).h.1 = max 0 ((acc h b w s nof).o1 - loss (acc h b w s nof) (acc h b w s nof).o1 - ((acc h b w s nof).b2 + (c + h.sc)) - (acc h b w s nof).f2) := by
  unfold leftK
  rw [knI_true (by rw [left_high]; exact ht)]
  refine ⟨left_high h b w s c, ?_⟩
  rw [acc_app]
  rfl
theorem bookQ_r {h : Hs} {b : List En} (hb : Ok h b) {w s c : Int} (hc : 0 ≤ c ∧ c ≤ 200000) : OkR h (bookQ b w s c) ∧ kinds (bookQ b w s c) := by
  have hl := hb.len
  refine ⟨⟨hb.hs, by simp only [bookQ, List.length_append, List.length_cons, List.length_nil]; omega, fun x hx => ?_⟩, fun x hx => ?_⟩
  · rcases List.mem_append.1 hx with h1 | h1
    · exact hb.r.ct x h1
    · have : x = ⟨w, 2, s, c⟩ := by simpa using h1
      rw [this]; exact hc
  · rcases List.mem_append.1 hx with h1 | h1
    · exact hb.kinds x h1
    · have : x = ⟨w, 2, s, c⟩ := by simpa using h1
      rw [this]; exact .inr (.inl rfl)
theorem own1_spec (b : List En) (hb : b.length < 1000) : SpecF Try.prog 15 [.sl 4 (b.map enR)] (.ob 0 b.length) [.row 74 4 (b.map enR) false] := by
  refine spec_go (N := 6) (rs := [.tmp 2]) (eq := eqs) rfl rfl fun_15 rfl (by kernel_rfl) (by kernel_rfl) (by simp) (by simp) (by simp) (by simp) fun R hR => ?_
  simp (maxSteps := 2000000) only [vcA, ↓vcP, ↓reduceIte, reduceCtorEq, Nat.reduceAdd, Nat.reduceMul, Nat.reduceSub, Nat.reduceLT, Nat.reduceLeDiff, Nat.reduceEqDiff, Nat.reduceBEq, Nat.reduceBNe, Nat.reduceGT, Nat.reduceDiv, Nat.reduceMod, Int.reduceAdd, Int.reduceSub, Int.reduceNeg, Int.reduceLT, Int.reduceLE, Int.reduceEq, Int.reduceToNat, fA]
  refine ⟨⟨by omega, by simp only [maxLen]; omega⟩, fun _ => ?_⟩
  refine hR _ (fin_of1 [some 32] ?_)
  simp (maxSteps := 2000000) only [enA, ↓enP, Nat.reduceAdd, Nat.reduceMul, Nat.reduceSub, Nat.reduceLT, Nat.reduceLeDiff, Nat.reduceEqDiff, Nat.reduceBEq, ↓reduceIte, reduceCtorEq, fA]
theorem left_spec (h : Hs) (b : List En) (w s c : Int) (hb : Ok h b) (hs : 0 ≤ s ∧ s < h.tk.length) (hc : 0 ≤ c ∧ c ≤ 200000) : SpecF Try.prog 84 [.agg [.v (.int .i64 h.sc), .sl 2 (h.tk.map spR), .sl 1 (h.lo.map iR)], .sl 4 (b.map enR), .v (.int .i64 w), .v (.int .i64 s), .v (.int .i64 c)] (.agg (knA (leftK h b w s c))) [] := by
  have hl := hb.len
  obtain ⟨g1, g2⟩ := bookQ_r hb (w := w) (s := s) hc
  have hk := know_spec h (bookQ b w s c) w s g1 g2 hs
  have eX : b.map enR ++ [[DV.v (.int .i64 w), DV.v (.int .i64 2), DV.v (.int .i64 s), DV.v (.int .i64 c)]] = (bookQ b w s c).map enR := by unfold bookQ; rw [List.map_append]; rfl
  unfold leftK
  unfold knA at hk ⊢
  refine spec_go (N := 23) (rs := [.cell 10 95]) (eq := eqs) rfl rfl fun_84 rfl (by kernel_rfl) (by kernel_rfl) (by simp) (by simp) (by simp) (by simp) fun R hR => ?_
  simp (maxSteps := 2000000) only [vcA, ↓vcP, ↓reduceIte, reduceCtorEq, Nat.reduceAdd, Nat.reduceMul, Nat.reduceSub, Nat.reduceLT, Nat.reduceLeDiff, Nat.reduceEqDiff, Nat.reduceBEq, Nat.reduceBNe, Nat.reduceGT, Nat.reduceDiv, Nat.reduceMod, Int.reduceAdd, Int.reduceSub, Int.reduceNeg, Int.reduceLT, Int.reduceLE, Int.reduceEq, Int.reduceToNat, fA]
  refine onF_call (own1_spec b (by omega)) [] [] [] ?_ ?_
  · simp (maxSteps := 2000000) only [okA, ↓okP, Nat.reduceAdd, Nat.reduceMul, Nat.reduceSub, Nat.reduceLT, Nat.reduceLeDiff, Nat.reduceEqDiff, Nat.reduceBEq, ↓reduceIte, reduceCtorEq]
  simp (maxSteps := 2000000) only [vcA, ↓vcP, ↓reduceIte, reduceCtorEq, Nat.reduceAdd, Nat.reduceMul, Nat.reduceSub, Nat.reduceLT, Nat.reduceLeDiff, Nat.reduceEqDiff, Nat.reduceBEq, Nat.reduceBNe, Nat.reduceGT, Nat.reduceDiv, Nat.reduceMod, Int.reduceAdd, Int.reduceSub, Int.reduceNeg, Int.reduceLT, Int.reduceLE, Int.reduceEq, Int.reduceToNat, fA]
  refine ⟨⟨by omega, by simp only [maxLen]; omega⟩, fun _ => ?_⟩
  repeat (first | refine ⟨by kernel_rfl, ?_⟩ | refine ⟨⟨by kernel_rfl, by kernel_rfl⟩, ?_⟩ | refine ⟨⟨by kernel_rfl, by kernel_rfl, by kernel_rfl⟩, ?_⟩ | refine ⟨⟨by kernel_rfl, by kernel_rfl, by kernel_rfl, by kernel_rfl⟩, ?_⟩ | refine ⟨⟨by kernel_rfl, by kernel_rfl, by kernel_rfl, by kernel_rfl, by kernel_rfl⟩, ?_⟩ | refine ⟨⟨by kernel_rfl, by kernel_rfl, by kernel_rfl, by kernel_rfl, by kernel_rfl, by kernel_rfl⟩, ?_⟩ | refine ⟨⟨by kernel_rfl, by kernel_rfl, by kernel_rfl, by kernel_rfl, by kernel_rfl, by kernel_rfl, by kernel_rfl⟩, ?_⟩ | refine ⟨⟨by kernel_rfl, by kernel_rfl, by kernel_rfl, by kernel_rfl, by kernel_rfl, by kernel_rfl, by kernel_rfl, by kernel_rfl⟩, ?_⟩ | refine ⟨⟨by kernel_rfl, by kernel_rfl, by kernel_rfl, by kernel_rfl, by kernel_rfl, by kernel_rfl, by kernel_rfl, by kernel_rfl, by kernel_rfl⟩, ?_⟩ | refine ⟨⟨by kernel_rfl, by kernel_rfl, by kernel_rfl, by kernel_rfl, by kernel_rfl, by kernel_rfl, by kernel_rfl, by kernel_rfl, by kernel_rfl, by kernel_rfl⟩, ?_⟩ | refine ⟨⟨by kernel_rfl, by kernel_rfl, by kernel_rfl, by kernel_rfl, by kernel_rfl, by kernel_rfl, by kernel_rfl, by kernel_rfl, by kernel_rfl, by kernel_rfl, by kernel_rfl⟩, ?_⟩ | refine ⟨⟨by kernel_rfl, by kernel_rfl, by kernel_rfl, by kernel_rfl, by kernel_rfl, by kernel_rfl, by kernel_rfl, by kernel_rfl, by kernel_rfl, by kernel_rfl, by kernel_rfl, by kernel_rfl⟩, ?_⟩ | refine ⟨⟨by kernel_rfl, by kernel_rfl, by kernel_rfl, by kernel_rfl, by kernel_rfl, by kernel_rfl, by kernel_rfl, by kernel_rfl, by kernel_rfl, by kernel_rfl, by kernel_rfl, by kernel_rfl, by kernel_rfl⟩, ?_⟩)
  refine onF_call hk [88] [] [] ?_ ?_
  · simp (maxSteps := 2000000) only [okA, ↓okP, Nat.reduceAdd, Nat.reduceMul, Nat.reduceSub, Nat.reduceLT, Nat.reduceLeDiff, Nat.reduceEqDiff, Nat.reduceBEq, ↓reduceIte, reduceCtorEq, eX]
    try rfl
  simp (maxSteps := 2000000) only [vcA, ↓vcP, ↓reduceIte, reduceCtorEq, Nat.reduceAdd, Nat.reduceMul, Nat.reduceSub, Nat.reduceLT, Nat.reduceLeDiff, Nat.reduceEqDiff, Nat.reduceBEq, Nat.reduceBNe, Nat.reduceGT, Nat.reduceDiv, Nat.reduceMod, Int.reduceAdd, Int.reduceSub, Int.reduceNeg, Int.reduceLT, Int.reduceLE, Int.reduceEq, Int.reduceToNat, fA, eX]
  repeat (first | refine ⟨by kernel_rfl, ?_⟩ | refine ⟨⟨by kernel_rfl, by kernel_rfl⟩, ?_⟩ | refine ⟨⟨by kernel_rfl, by kernel_rfl, by kernel_rfl⟩, ?_⟩ | refine ⟨⟨by kernel_rfl, by kernel_rfl, by kernel_rfl, by kernel_rfl⟩, ?_⟩ | refine ⟨⟨by kernel_rfl, by kernel_rfl, by kernel_rfl, by kernel_rfl, by kernel_rfl⟩, ?_⟩ | refine ⟨⟨by kernel_rfl, by kernel_rfl, by kernel_rfl, by kernel_rfl, by kernel_rfl, by kernel_rfl⟩, ?_⟩ | refine ⟨⟨by kernel_rfl, by kernel_rfl, by kernel_rfl, by kernel_rfl, by kernel_rfl, by kernel_rfl, by kernel_rfl⟩, ?_⟩ | refine ⟨⟨by kernel_rfl, by kernel_rfl, by kernel_rfl, by kernel_rfl, by kernel_rfl, by kernel_rfl, by kernel_rfl, by kernel_rfl⟩, ?_⟩ | refine ⟨⟨by kernel_rfl, by kernel_rfl, by kernel_rfl, by kernel_rfl, by kernel_rfl, by kernel_rfl, by kernel_rfl, by kernel_rfl, by kernel_rfl⟩, ?_⟩ | refine ⟨⟨by kernel_rfl, by kernel_rfl, by kernel_rfl, by kernel_rfl, by kernel_rfl, by kernel_rfl, by kernel_rfl, by kernel_rfl, by kernel_rfl, by kernel_rfl⟩, ?_⟩ | refine ⟨⟨by kernel_rfl, by kernel_rfl, by kernel_rfl, by kernel_rfl, by kernel_rfl, by kernel_rfl, by kernel_rfl, by kernel_rfl, by kernel_rfl, by kernel_rfl, by kernel_rfl⟩, ?_⟩ | refine ⟨⟨by kernel_rfl, by kernel_rfl, by kernel_rfl, by kernel_rfl, by kernel_rfl, by kernel_rfl, by kernel_rfl, by kernel_rfl, by kernel_rfl, by kernel_rfl, by kernel_rfl, by kernel_rfl⟩, ?_⟩ | refine ⟨⟨by kernel_rfl, by kernel_rfl, by kernel_rfl, by kernel_rfl, by kernel_rfl, by kernel_rfl, by kernel_rfl, by kernel_rfl, by kernel_rfl, by kernel_rfl, by kernel_rfl, by kernel_rfl, by kernel_rfl⟩, ?_⟩)
  refine hR _ (fin_of0 ?_)
  simp (maxSteps := 2000000) only [enA, ↓enP, Nat.reduceAdd, Nat.reduceMul, Nat.reduceSub, Nat.reduceLT, Nat.reduceLeDiff, Nat.reduceEqDiff, Nat.reduceBEq, ↓reduceIte, reduceCtorEq, fA]
  try exact ⟨rfl, rfl, rfl, rfl, rfl, rfl, rfl⟩
end Go.Proofs.Ytfnohamcmidgbaa.Ab.T07
