/- A crack more gives no more sticks; no layout exceeds the bound; a blade that bends enough is as it is. Plain. The sawyer's blade by bytes: its walk. The sawyer's wage: contracts, and the made blade without fault. -/
import Derived.Test.YtciegkpjenjaeaaDoorZP0
import Derived.Test.YtciegkpjenjaeaaDoorZT12
import Derived.Test.YtciegkpjenjaeaaDoorZR1
namespace Go.Proofs.YtciegkpjenjaeaaDoor.Ab.T01
open Go Go.RowKit
set_option linter.unusedSimpArgs false
set_option linter.unusedVariables false
/-- A blade that bends enough is as it is. -/
theorem pAt_id {L : List Sp} (h : Okl L) {i : Nat} (hi : i < L.length) : pAt 300 L i = nth L i := by
  have a := h _ (nth_mem hi)
  have b := h _ (nth_mem (l := L) (i := i - 1) (by omega))
  unfold pAt meetS
  have e1 : max (nth L i).1 ((nth L (i - 1)).1 - 300) = (nth L i).1 := by omega
  have e2 : min (nth L i).2 ((nth L (i - 1)).2 + 300) = (nth L i).2 := by omega
  simp only [e1, e2]
theorem set_same {L : List Sp} {i : Nat} (hi : i < L.length) : L.set i (nth L i) = L := by
  have : nth L i = L[i] := by unfold nth; simp [List.getD_eq_getElem?_getD, hi]
  rw [this]
  exact List.set_getElem_self hi
theorem pIter_id {L : List Sp} (h : Okl L) : ∀ i, i ≤ L.length - 1 → pIter 300 L i = L
  | 0, _ => rfl
  | i + 1, hi => by
    rw [pIter, pIter_id h i (by omega), pAt_id h (by omega), set_same (by omega)]
theorem passOk_id {L : List Sp} (h : Okl L) : passOk 300 L = true := by
  unfold passOk
  rw [List.all_eq_true]
  intro i hi
  have hi := List.mem_range.1 hi
  rw [pIter_id h i (by omega), pAt_id h (by omega)]
  exact decide_eq_true (h _ (nth_mem (l := L) (i := i + 1) (by omega))).2.1
theorem pass_id {L : List Sp} (h : Okl L) : pass 300 L = L.reverse := by unfold pass; rw [pIter_id h _ (Nat.le_refl _)]
theorem okl_reverse {L : List Sp} (h : Okl L) : Okl L.reverse := fun s hs => h s (List.mem_reverse.1 hs)
theorem bent_id {L : List Sp} (h : Okl L) : bentS 300 L = some L := by
  unfold bentS
  rw [pass_id h, passOk_id h, passOk_id (okl_reverse h), pass_id (okl_reverse h), List.reverse_reverse]
  rfl
/-- A blade without a fault, that bends enough. -/
structure Good (b : Bl) : Prop where
  len : b.bottom.length = b.top.length
  n : 1 ≤ b.bottom.length ∧ b.bottom.length ≤ 30
  bend : b.bend = 300
  bot : Okl b.bottom
  top : Okl b.top
  ed : ∀ i : Nat, i < b.bottom.length → (nth b.bottom i).2 ≤ (nth b.top i).1
  few : b.cracks.length ≤ 4
  cr : ∀ c ∈ b.cracks, isCrack c b.bottom.length = true
theorem Good.new {b : Bl} (g : Good b) : newErr b = 0 ∧ newLow b = b.bottom ∧ newTop b = b.top := by
  have hf : formErr b = 0 := by
    unfold formErr
    have b1 : betw 1 30 [(b.bottom.length : Int)] = true := by have := g.n; simp [betw]; omega
    rw [if_neg (by rw [b1]; simp [g.len])]
    rw [if_neg (by have := g.few; omega)]
    have b2 : betw 0 300 [b.bend] = true := by rw [g.bend]; rfl
    have b3 : (b.cracks.any fun c => !isCrack c b.bottom.length) = false := by
      rw [List.any_eq_false]
      intro c hc
      rw [g.cr c hc]
      decide
    rw [if_neg (by rw [b2, b3]; simp)]
    have b4 : edgesOk b = true := by
      unfold edgesOk
      rw [List.all_eq_true]
      intro i hi
      have hi := List.mem_range.1 hi
      have a := g.bot _ (nth_mem hi)
      have t := g.top _ (nth_mem (l := b.top) (i := i) (by have := g.len; omega))
      have e := g.ed i hi
      unfold isEdges isHeight isSpan
      simp [betw]
      omega
    rw [b4]
    rfl
  have e : newErr b = 0 := by
    unfold newErr
    rw [hf, if_neg (by simp), g.bend, bent_id g.bot, bent_id g.top]
    rfl
  refine ⟨e, ?_, ?_⟩
  · unfold newLow
    rw [e, if_pos rfl, g.bend, bent_id g.bot]
    rfl
  · unfold newTop
    rw [e, if_pos rfl, g.bend, bent_id g.top]
    rfl
def addCrk (b : Bl) (c : Crk) : Bl := { b with cracks := b.cracks ++ [c] }
theorem Good.add {b : Bl} (g : Good b) {c : Crk} (hc : isCrack c b.bottom.length = true) (hf : b.cracks.length ≤ 3) : Good (addCrk b c) := by
  obtain ⟨g1, g2, g3, g4, g5, g6, g7, g8⟩ := g
  refine ⟨g1, g2, g3, g4, g5, g6, ?_, fun d hd => ?_⟩
  · show (b.cracks ++ [c]).length ≤ 4
    simp
    omega
  · rcases List.mem_append.1 hd with h | h
    · exact g8 d h
    · rw [List.mem_singleton.1 h]
      exact hc
theorem Good.open {b : Bl} (g : Good b) {s : Sw} (hs : sawOk s = true) : openErr b s = 0 := by
  unfold openErr
  rw [g.new.1, if_neg (by simp), if_pos hs]
end Go.Proofs.YtciegkpjenjaeaaDoor.Ab.T01
namespace Go.Proofs.YtciegkpjenjaeaaDoor.Ab.T01
open Go Go.RowKit
set_option linter.unusedSimpArgs false
set_option linter.unusedVariables false
set_option maxRecDepth 100000
structure C3 where
  a : Int
  b : Int
  c : Int
instance : Inhabited C3 := ⟨⟨0, 0, 0⟩⟩
def By (n : Int) : Prop := 0 ≤ n ∧ n < 256
structure C3.Ok (z : C3) : Prop where
  a : By z.a
  b : By z.b
  c : By z.c
def c3R (c : C3) : List DV := [.v (.int .u8 c.a), .v (.int .u8 c.b), .v (.int .u8 c.c)]
/-- A blade in bytes. -/
structure OT where
  m : Int
  g : Nat → Int
  cr : List C3
  s0 : Int
  s1 : Int
  s2 : Int
  s3 : Int
structure OT.Ok (x : OT) : Prop where
  m : By x.m
  g : ∀ i, By (x.g i)
  cr : ∀ c ∈ x.cr, c.Ok
  s0 : By x.s0
  s1 : By x.s1
  s2 : By x.s2
  s3 : By x.s3
def otA (x : OT) : List AV := [.v (.int .u8 x.m), .v (.int .u8 (x.g 0)), .v (.int .u8 (x.g 1)), .v (.int .u8 (x.g 2)), .v (.int .u8 (x.g 3)), .v (.int .u8 (x.g 4)), .v (.int .u8 (x.g 5)), .v (.int .u8 (x.g 6)), .v (.int .u8 (x.g 7)), .v (.int .u8 (x.g 8)), .v (.int .u8 (x.g 9)), .v (.int .u8 (x.g 10)), .v (.int .u8 (x.g 11)), .v (.int .u8 (x.g 12)), .v (.int .u8 (x.g 13)), .v (.int .u8 (x.g 14)), .v (.int .u8 (x.g 15)), .v (.int .u8 (x.g 16)), .v (.int .u8 (x.g 17)), .v (.int .u8 (x.g 18)), .v (.int .u8 (x.g 19)), .v (.int .u8 (x.g 20)), .v (.int .u8 (x.g 21)), .v (.int .u8 (x.g 22)), .v (.int .u8 (x.g 23)), .sl 3 (x.cr.map c3R), .v (.int .u8 x.s0), .v (.int .u8 x.s1), .v (.int .u8 x.s2), .v (.int .u8 x.s3)]
theorem otA_len (x : OT) : (otA x).length = 30 := rfl
theorem otA_get (x : OT) {n : Nat} (h : n < 24) : (List.take 1 (List.drop (1 + n) (otA x))).headD .un = .v (.int .u8 (x.g n)) := by
  match n, h with
  | 0, _ | 1, _ | 2, _ | 3, _ | 4, _ | 5, _ | 6, _ | 7, _ | 8, _ | 9, _ | 10, _ | 11, _ | 12, _ | 13, _ | 14, _ | 15, _ | 16, _ | 17, _ | 18, _ | 19, _ | 20, _ | 21, _ | 22, _ | 23, _ => rfl
  | n + 24, h => omega
theorem otA_eqr (ρ : Nat → Option (Option Nat)) (x : OT) : eqrL (eqr1 ρ) (otA x) (otA x) := by
  unfold otA
  and_intros <;> first | rfl | trivial
def nX (x : OT) : Nat := (1 + x.m % 6).toNat
def botX (x : OT) (i : Nat) : Sp := (x.g (2 * i) % 20, x.g (2 * i) % 20 + x.g (2 * i + 1) % 4)
def topX (x : OT) (i : Nat) : Sp := (40 + x.g (12 + 2 * i) % 60, 40 + x.g (12 + 2 * i) % 60 + x.g (12 + 2 * i + 1) % 4)
def crkX (x : OT) (c : C3) : Crk := ⟨(c.a % (nX x : Int), c.a % (nX x : Int)), (5 + c.b % 60, 5 + c.b % 60 + 1), (5 + c.b % 60 + 1, 5 + c.b % 60 + 2 + c.c % 6)⟩
def madeX (x : OT) : Bl := ⟨(List.range (nX x)).map (botX x), (List.range (nX x)).map (topX x), 300, (x.cr.take 2).map (crkX x)⟩
def sawX (x : OT) : Sw := ⟨1 + x.s0 % 3, 3 + x.s1 % 14, x.s2 % 4, x.s3 % 2⟩
theorem span_spec (a b : Int) : SpecF Tryd.prog 8 [.v (.int .i64 a), .v (.int .i64 b)] (.agg [.v (.int .i64 a), .v (.int .i64 b)]) [] := by
  refine spec_go (N := 8) (rs := [.cell 4 50]) (eq := eqs) rfl rfl fun_8 rfl (by kernel_rfl) (by kernel_rfl) (by simp) (by simp) (by simp) (by simp) fun R hR => ?_
  simp (maxSteps := 2000000) only [vcA, ↓vcP, ↓reduceIte, reduceCtorEq, Nat.reduceAdd, Nat.reduceMul, Nat.reduceSub, Nat.reduceLT, Nat.reduceLeDiff, Nat.reduceEqDiff, Nat.reduceBEq, Nat.reduceBNe, Nat.reduceGT, Nat.reduceDiv, Nat.reduceMod, Int.reduceAdd, Int.reduceSub, Int.reduceNeg, Int.reduceLT, Int.reduceLE, Int.reduceEq, Int.reduceToNat, fA]
  refine hR _ (fin_of0 ?_)
  simp (maxSteps := 2000000) only [enA, ↓enP, Nat.reduceAdd, Nat.reduceMul, Nat.reduceSub, Nat.reduceLT, Nat.reduceLeDiff, Nat.reduceEqDiff, Nat.reduceBEq, ↓reduceIte, reduceCtorEq, fA]
set_option pp.maxSteps 1000000
set_option pp.deepTerms true
set_option maxHeartbeats 4000000 in
theorem made_spec (x : OT) (hx : x.Ok) : SpecF Tryd.prog 4 [.agg (otA x)]
    (.tup [.agg [.ob 0 (nX x), .ob 1 (nX x), .v (.int .i64 300), .ob 2 (madeX x).cracks.length], .agg [.v (.int .i64 (sawX x).long), .v (.int .i64 (sawX x).wide), .v (.int .i64 (sawX x).kerf), .v (.int .i64 (sawX x).across)]])
    [.row 50 2 ((madeX x).bottom.map spR) false, .row 50 2 ((madeX x).top.map spR) false, .row 59 6 ((madeX x).cracks.map crR) false] := by
  obtain ⟨hm, hg, hcr, hs0, hs1, hs2, hs3⟩ := hx
  unfold By at hm hs0 hs1 hs2 hs3
  have m1 : IntKind.i64.wrap x.m = x.m := wrap_id (by omega) (by omega)
  have m2 : x.m.tmod 6 = x.m % 6 := Int.tmod_eq_emod_of_nonneg hm.1
  have m3 : IntKind.i64.wrap (x.m % 6) = x.m % 6 := wrap_id (by omega) (by omega)
  have m4 : IntKind.i64.wrap (1 + x.m % 6) = ((nX x : Nat) : Int) := by unfold nX; rw [wrap_id (by omega) (by omega)]; omega
  have hn : 1 ≤ nX x ∧ nX x ≤ 6 := by unfold nX; omega
  have oA : otA x = otA x := rfl
  have h0 : (List.take 1 (otA x)).headD .un = .v (.int .u8 x.m) := rfl
  refine spec_go (N := 148) (rs := [.cell 2 32, .cell 3 34]) (eq := eqs) rfl rfl fun_4 rfl (by kernel_rfl) (by kernel_rfl) (by simp) (by simp) (by simp) (by simp) fun R hR => ?_
  simp (maxSteps := 2000000) only [vcA, ↓vcP, ↓reduceIte, reduceCtorEq, Nat.reduceAdd, Nat.reduceMul, Nat.reduceSub, Nat.reduceLT, Nat.reduceLeDiff, Nat.reduceEqDiff, Nat.reduceBEq, Nat.reduceBNe, Nat.reduceGT, Nat.reduceDiv, Nat.reduceMod, Int.reduceAdd, Int.reduceSub, Int.reduceNeg, Int.reduceLT, Int.reduceLE, Int.reduceEq, Int.reduceToNat, fA, otA_len, h0, m1, m2, m3, m4]
  repeat (first | refine ⟨by kernel_rfl, ?_⟩ | refine ⟨⟨by kernel_rfl, by kernel_rfl⟩, ?_⟩ | refine ⟨⟨by kernel_rfl, by kernel_rfl, by kernel_rfl⟩, ?_⟩ | refine ⟨⟨by kernel_rfl, by kernel_rfl, by kernel_rfl, by kernel_rfl⟩, ?_⟩ | refine ⟨⟨by kernel_rfl, by kernel_rfl, by kernel_rfl, by kernel_rfl, by kernel_rfl⟩, ?_⟩ | refine ⟨⟨by kernel_rfl, by kernel_rfl, by kernel_rfl, by kernel_rfl, by kernel_rfl, by kernel_rfl⟩, ?_⟩ | refine ⟨⟨by kernel_rfl, by kernel_rfl, by kernel_rfl, by kernel_rfl, by kernel_rfl, by kernel_rfl, by kernel_rfl⟩, ?_⟩ | refine ⟨⟨by kernel_rfl, by kernel_rfl, by kernel_rfl, by kernel_rfl, by kernel_rfl, by kernel_rfl, by kernel_rfl, by kernel_rfl⟩, ?_⟩ | refine ⟨⟨by kernel_rfl, by kernel_rfl, by kernel_rfl, by kernel_rfl, by kernel_rfl, by kernel_rfl, by kernel_rfl, by kernel_rfl, by kernel_rfl⟩, ?_⟩ | refine ⟨⟨by kernel_rfl, by kernel_rfl, by kernel_rfl, by kernel_rfl, by kernel_rfl, by kernel_rfl, by kernel_rfl, by kernel_rfl, by kernel_rfl, by kernel_rfl⟩, ?_⟩ | refine ⟨⟨by kernel_rfl, by kernel_rfl, by kernel_rfl, by kernel_rfl, by kernel_rfl, by kernel_rfl, by kernel_rfl, by kernel_rfl, by kernel_rfl, by kernel_rfl, by kernel_rfl⟩, ?_⟩ | refine ⟨⟨by kernel_rfl, by kernel_rfl, by kernel_rfl, by kernel_rfl, by kernel_rfl, by kernel_rfl, by kernel_rfl, by kernel_rfl, by kernel_rfl, by kernel_rfl, by kernel_rfl, by kernel_rfl⟩, ?_⟩ | refine ⟨⟨by kernel_rfl, by kernel_rfl, by kernel_rfl, by kernel_rfl, by kernel_rfl, by kernel_rfl, by kernel_rfl, by kernel_rfl, by kernel_rfl, by kernel_rfl, by kernel_rfl, by kernel_rfl, by kernel_rfl⟩, ?_⟩)
  refine goC_loop (α := {i : Nat // i ≤ nX x}) (fun y => ⟨[(1, .ptr 8 0), (2, .ptr 16 0), (3, .ptr 24 0), (4, .ptr 80 0), (5, .v (.int .i64 (nX x : Nat))), (6, .v (.int .i64 y.1))], [(8, .box 27 (otA x)), (16, .box 32 [.v (.slice none 0 0), .v (.slice none 0 0), .v (.int .i64 0), .v (.slice none 0 0)]), (24, .box 34 [.v (.int .i64 0), .v (.int .i64 0), .v (.int .i64 0), .v (.int .i64 0)]), (80, .box 32 [.ob 112 y.1, .ob 113 y.1, .v (.int .i64 300), .v (.slice none 0 0)]), (112, .row 50 2 (((List.range y.1).map (botX x)).map spR) false), (113, .row 50 2 (((List.range y.1).map (topX x)).map spR) false)]⟩) (fun y => nX x - y.1) ⟨0, by omega⟩ [none, none] ?_ ?_
  · simp (maxSteps := 2000000) only [enA, ↓enP, Nat.reduceAdd, Nat.reduceMul, Nat.reduceSub, Nat.reduceLT, Nat.reduceLeDiff, Nat.reduceEqDiff, Nat.reduceBEq, ↓reduceIte, reduceCtorEq, fA]
    exact ⟨rfl, otA_eqr _ x, rfl, rfl⟩
  intro y B hB
  obtain ⟨i, hi⟩ := y
  simp only at hB ⊢
  by_cases ci : ¬ i < nX x
  · have ie : i = nX x := by omega
    subst ie
    clear hB
    have pe : (nX x < nX x) = False := eq_false (by omega)
    simp (maxSteps := 2000000) only [vcA, ↓vcP, ↓reduceIte, reduceCtorEq, Nat.reduceAdd, Nat.reduceMul, Nat.reduceSub, Nat.reduceLT, Nat.reduceLeDiff, Nat.reduceEqDiff, Nat.reduceBEq, Nat.reduceBNe, Nat.reduceGT, Nat.reduceDiv, Nat.reduceMod, Int.reduceAdd, Int.reduceSub, Int.reduceNeg, Int.reduceLT, Int.reduceLE, Int.reduceEq, Int.reduceToNat, fA, pe]
    refine goC_loop (α := {j : Nat // j ≤ min x.cr.length 2}) (fun y => ⟨[(1, .ptr 8 0), (2, .ptr 16 0), (3, .ptr 24 0), (4, .ptr 80 0), (5, .v (.int .i64 (nX x : Nat))), (9, .v (.int .i64 y.1))], [(8, .box 27 (otA x)), (16, .box 32 [.v (.slice none 0 0), .v (.slice none 0 0), .v (.int .i64 0), .v (.slice none 0 0)]), (24, .box 34 [.v (.int .i64 0), .v (.int .i64 0), .v (.int .i64 0), .v (.int .i64 0)]), (80, .box 32 [.ob 112 (nX x), .ob 113 (nX x), .v (.int .i64 300), .ob 176 y.1]), (112, .row 50 2 (((List.range (nX x)).map (botX x)).map spR) false), (113, .row 50 2 (((List.range (nX x)).map (topX x)).map spR) false), (176, .row 59 6 (((x.cr.take y.1).map (crkX x)).map crR) false)]⟩) (fun y => min x.cr.length 2 - y.1) ⟨0, by omega⟩ [none] ?_ ?_
    · simp (maxSteps := 2000000) only [enA, ↓enP, Nat.reduceAdd, Nat.reduceMul, Nat.reduceSub, Nat.reduceLT, Nat.reduceLeDiff, Nat.reduceEqDiff, Nat.reduceBEq, ↓reduceIte, reduceCtorEq, fA]
      exact ⟨rfl, otA_eqr _ x⟩
    intro y B2 hB2
    obtain ⟨j, hj⟩ := y
    simp only at hB2 ⊢
    by_cases cj : j < x.cr.length ∧ j < 2
    · obtain ⟨cj1, cj2⟩ := cj
      have p1 : (j < x.cr.length) = True := eq_true cj1
      have p2 : ((j : Int) < 2) = True := eq_true (by omega)
      have hcb := hcr _ (nth_mem cj1)
      obtain ⟨c, hc⟩ : ∃ c, c = nth x.cr j := ⟨_, rfl⟩
      rw [← hc] at hcb
      have hc' := hc.symm
      obtain ⟨ca, cb, cc⟩ := hcb
      unfold By at ca cb cc
      have ej : IntKind.i64.wrap ((j : Int) + 1) = ((j + 1 : Nat) : Int) := wrap_id (by omega) (by omega)
      have mn0 := Int.emod_nonneg c.a (b := ((nX x : Nat) : Int)) (by omega)
      have mn1 := Int.emod_lt_of_pos c.a (b := ((nX x : Nat) : Int)) (by omega)
      have u1 : IntKind.i64.wrap c.a = c.a := wrap_id (by omega) (by omega)
      have u2 : IntKind.i64.wrap c.b = c.b := wrap_id (by omega) (by omega)
      have u3 : IntKind.i64.wrap c.c = c.c := wrap_id (by omega) (by omega)
      have u4 : c.a.tmod ((nX x : Nat) : Int) = c.a % ((nX x : Nat) : Int) := Int.tmod_eq_emod_of_nonneg ca.1
      have u5 : IntKind.i64.wrap (c.a % ((nX x : Nat) : Int)) = c.a % ((nX x : Nat) : Int) := wrap_id (by omega) (by omega)
      have u6 : c.b.tmod 60 = c.b % 60 := Int.tmod_eq_emod_of_nonneg cb.1
      have u7 : IntKind.i64.wrap (c.b % 60) = c.b % 60 := wrap_id (by omega) (by omega)
      have u8 : IntKind.i64.wrap (5 + c.b % 60) = 5 + c.b % 60 := wrap_id (by omega) (by omega)
      have u9 : IntKind.i64.wrap (5 + c.b % 60 + 1) = 5 + c.b % 60 + 1 := wrap_id (by omega) (by omega)
      have u10 : IntKind.i64.wrap (5 + c.b % 60 + 2) = 5 + c.b % 60 + 2 := wrap_id (by omega) (by omega)
      have u11 : c.c.tmod 6 = c.c % 6 := Int.tmod_eq_emod_of_nonneg cc.1
      have u12 : IntKind.i64.wrap (c.c % 6) = c.c % 6 := wrap_id (by omega) (by omega)
      have u13 : IntKind.i64.wrap (5 + c.b % 60 + 2 + c.c % 6) = 5 + c.b % 60 + 2 + c.c % 6 := wrap_id (by omega) (by omega)
      have z1 : (((nX x : Nat) : Int) = 0) = False := eq_false (by omega)
      have gc : (List.take 1 (List.drop 25 (otA x))).headD .un = .sl 3 (x.cr.map c3R) := rfl
      simp (maxSteps := 2000000) only [vcA, ↓vcP, ↓reduceIte, reduceCtorEq, Nat.reduceAdd, Nat.reduceMul, Nat.reduceSub, Nat.reduceLT, Nat.reduceLeDiff, Nat.reduceEqDiff, Nat.reduceBEq, Nat.reduceBNe, Nat.reduceGT, Nat.reduceDiv, Nat.reduceMod, Int.reduceAdd, Int.reduceSub, Int.reduceNeg, Int.reduceLT, Int.reduceLE, Int.reduceEq, Int.reduceToNat, fA, p1, p2, hc', c3R, otA_len, gc, u1, u2, u3, u4, u5, u6, u7, u8, u9, u10, u11, u12, u13, z1]
      have tk : ((x.cr.take j).map (crkX x)).length = j := by simp; omega
      repeat (first | refine ⟨by kernel_rfl, ?_⟩ | refine ⟨⟨by kernel_rfl, by kernel_rfl⟩, ?_⟩ | refine ⟨⟨by kernel_rfl, by kernel_rfl, by kernel_rfl⟩, ?_⟩ | refine ⟨⟨by kernel_rfl, by kernel_rfl, by kernel_rfl, by kernel_rfl⟩, ?_⟩ | refine ⟨⟨by kernel_rfl, by kernel_rfl, by kernel_rfl, by kernel_rfl, by kernel_rfl⟩, ?_⟩ | refine ⟨⟨by kernel_rfl, by kernel_rfl, by kernel_rfl, by kernel_rfl, by kernel_rfl, by kernel_rfl⟩, ?_⟩ | refine ⟨⟨by kernel_rfl, by kernel_rfl, by kernel_rfl, by kernel_rfl, by kernel_rfl, by kernel_rfl, by kernel_rfl⟩, ?_⟩ | refine ⟨⟨by kernel_rfl, by kernel_rfl, by kernel_rfl, by kernel_rfl, by kernel_rfl, by kernel_rfl, by kernel_rfl, by kernel_rfl⟩, ?_⟩ | refine ⟨⟨by kernel_rfl, by kernel_rfl, by kernel_rfl, by kernel_rfl, by kernel_rfl, by kernel_rfl, by kernel_rfl, by kernel_rfl, by kernel_rfl⟩, ?_⟩ | refine ⟨⟨by kernel_rfl, by kernel_rfl, by kernel_rfl, by kernel_rfl, by kernel_rfl, by kernel_rfl, by kernel_rfl, by kernel_rfl, by kernel_rfl, by kernel_rfl⟩, ?_⟩ | refine ⟨⟨by kernel_rfl, by kernel_rfl, by kernel_rfl, by kernel_rfl, by kernel_rfl, by kernel_rfl, by kernel_rfl, by kernel_rfl, by kernel_rfl, by kernel_rfl, by kernel_rfl⟩, ?_⟩ | refine ⟨⟨by kernel_rfl, by kernel_rfl, by kernel_rfl, by kernel_rfl, by kernel_rfl, by kernel_rfl, by kernel_rfl, by kernel_rfl, by kernel_rfl, by kernel_rfl, by kernel_rfl, by kernel_rfl⟩, ?_⟩ | refine ⟨⟨by kernel_rfl, by kernel_rfl, by kernel_rfl, by kernel_rfl, by kernel_rfl, by kernel_rfl, by kernel_rfl, by kernel_rfl, by kernel_rfl, by kernel_rfl, by kernel_rfl, by kernel_rfl, by kernel_rfl⟩, ?_⟩)
      refine onF_data (span_spec (c.a % ((nX x : Nat) : Int)) (c.a % ((nX x : Nat) : Int))) ?_ ?_
      · simp (maxSteps := 2000000) only [okA, ↓okP, Nat.reduceAdd, Nat.reduceMul, Nat.reduceSub, Nat.reduceLT, Nat.reduceLeDiff, Nat.reduceEqDiff, Nat.reduceBEq, ↓reduceIte, reduceCtorEq]
      simp (maxSteps := 2000000) only [vcA, ↓vcP, ↓reduceIte, reduceCtorEq, Nat.reduceAdd, Nat.reduceMul, Nat.reduceSub, Nat.reduceLT, Nat.reduceLeDiff, Nat.reduceEqDiff, Nat.reduceBEq, Nat.reduceBNe, Nat.reduceGT, Nat.reduceDiv, Nat.reduceMod, Int.reduceAdd, Int.reduceSub, Int.reduceNeg, Int.reduceLT, Int.reduceLE, Int.reduceEq, Int.reduceToNat, fA, otA_len, gc, u1, u2, u3, u4, u5, u6, u7, u8, u9, u10, u11, u12, u13, tk]
      repeat (first | refine ⟨by kernel_rfl, ?_⟩ | refine ⟨⟨by kernel_rfl, by kernel_rfl⟩, ?_⟩ | refine ⟨⟨by kernel_rfl, by kernel_rfl, by kernel_rfl⟩, ?_⟩ | refine ⟨⟨by kernel_rfl, by kernel_rfl, by kernel_rfl, by kernel_rfl⟩, ?_⟩ | refine ⟨⟨by kernel_rfl, by kernel_rfl, by kernel_rfl, by kernel_rfl, by kernel_rfl⟩, ?_⟩ | refine ⟨⟨by kernel_rfl, by kernel_rfl, by kernel_rfl, by kernel_rfl, by kernel_rfl, by kernel_rfl⟩, ?_⟩ | refine ⟨⟨by kernel_rfl, by kernel_rfl, by kernel_rfl, by kernel_rfl, by kernel_rfl, by kernel_rfl, by kernel_rfl⟩, ?_⟩ | refine ⟨⟨by kernel_rfl, by kernel_rfl, by kernel_rfl, by kernel_rfl, by kernel_rfl, by kernel_rfl, by kernel_rfl, by kernel_rfl⟩, ?_⟩ | refine ⟨⟨by kernel_rfl, by kernel_rfl, by kernel_rfl, by kernel_rfl, by kernel_rfl, by kernel_rfl, by kernel_rfl, by kernel_rfl, by kernel_rfl⟩, ?_⟩ | refine ⟨⟨by kernel_rfl, by kernel_rfl, by kernel_rfl, by kernel_rfl, by kernel_rfl, by kernel_rfl, by kernel_rfl, by kernel_rfl, by kernel_rfl, by kernel_rfl⟩, ?_⟩ | refine ⟨⟨by kernel_rfl, by kernel_rfl, by kernel_rfl, by kernel_rfl, by kernel_rfl, by kernel_rfl, by kernel_rfl, by kernel_rfl, by kernel_rfl, by kernel_rfl, by kernel_rfl⟩, ?_⟩ | refine ⟨⟨by kernel_rfl, by kernel_rfl, by kernel_rfl, by kernel_rfl, by kernel_rfl, by kernel_rfl, by kernel_rfl, by kernel_rfl, by kernel_rfl, by kernel_rfl, by kernel_rfl, by kernel_rfl⟩, ?_⟩ | refine ⟨⟨by kernel_rfl, by kernel_rfl, by kernel_rfl, by kernel_rfl, by kernel_rfl, by kernel_rfl, by kernel_rfl, by kernel_rfl, by kernel_rfl, by kernel_rfl, by kernel_rfl, by kernel_rfl, by kernel_rfl⟩, ?_⟩)
      refine onF_data (span_spec (5 + c.b % 60) (5 + c.b % 60 + 1)) ?_ ?_
      · simp (maxSteps := 2000000) only [okA, ↓okP, Nat.reduceAdd, Nat.reduceMul, Nat.reduceSub, Nat.reduceLT, Nat.reduceLeDiff, Nat.reduceEqDiff, Nat.reduceBEq, ↓reduceIte, reduceCtorEq]
      simp (maxSteps := 2000000) only [vcA, ↓vcP, ↓reduceIte, reduceCtorEq, Nat.reduceAdd, Nat.reduceMul, Nat.reduceSub, Nat.reduceLT, Nat.reduceLeDiff, Nat.reduceEqDiff, Nat.reduceBEq, Nat.reduceBNe, Nat.reduceGT, Nat.reduceDiv, Nat.reduceMod, Int.reduceAdd, Int.reduceSub, Int.reduceNeg, Int.reduceLT, Int.reduceLE, Int.reduceEq, Int.reduceToNat, fA, otA_len, gc, u1, u2, u3, u4, u5, u6, u7, u8, u9, u10, u11, u12, u13, tk]
      repeat (first | refine ⟨by kernel_rfl, ?_⟩ | refine ⟨⟨by kernel_rfl, by kernel_rfl⟩, ?_⟩ | refine ⟨⟨by kernel_rfl, by kernel_rfl, by kernel_rfl⟩, ?_⟩ | refine ⟨⟨by kernel_rfl, by kernel_rfl, by kernel_rfl, by kernel_rfl⟩, ?_⟩ | refine ⟨⟨by kernel_rfl, by kernel_rfl, by kernel_rfl, by kernel_rfl, by kernel_rfl⟩, ?_⟩ | refine ⟨⟨by kernel_rfl, by kernel_rfl, by kernel_rfl, by kernel_rfl, by kernel_rfl, by kernel_rfl⟩, ?_⟩ | refine ⟨⟨by kernel_rfl, by kernel_rfl, by kernel_rfl, by kernel_rfl, by kernel_rfl, by kernel_rfl, by kernel_rfl⟩, ?_⟩ | refine ⟨⟨by kernel_rfl, by kernel_rfl, by kernel_rfl, by kernel_rfl, by kernel_rfl, by kernel_rfl, by kernel_rfl, by kernel_rfl⟩, ?_⟩ | refine ⟨⟨by kernel_rfl, by kernel_rfl, by kernel_rfl, by kernel_rfl, by kernel_rfl, by kernel_rfl, by kernel_rfl, by kernel_rfl, by kernel_rfl⟩, ?_⟩ | refine ⟨⟨by kernel_rfl, by kernel_rfl, by kernel_rfl, by kernel_rfl, by kernel_rfl, by kernel_rfl, by kernel_rfl, by kernel_rfl, by kernel_rfl, by kernel_rfl⟩, ?_⟩ | refine ⟨⟨by kernel_rfl, by kernel_rfl, by kernel_rfl, by kernel_rfl, by kernel_rfl, by kernel_rfl, by kernel_rfl, by kernel_rfl, by kernel_rfl, by kernel_rfl, by kernel_rfl⟩, ?_⟩ | refine ⟨⟨by kernel_rfl, by kernel_rfl, by kernel_rfl, by kernel_rfl, by kernel_rfl, by kernel_rfl, by kernel_rfl, by kernel_rfl, by kernel_rfl, by kernel_rfl, by kernel_rfl, by kernel_rfl⟩, ?_⟩ | refine ⟨⟨by kernel_rfl, by kernel_rfl, by kernel_rfl, by kernel_rfl, by kernel_rfl, by kernel_rfl, by kernel_rfl, by kernel_rfl, by kernel_rfl, by kernel_rfl, by kernel_rfl, by kernel_rfl, by kernel_rfl⟩, ?_⟩)
      refine onF_data (span_spec (5 + c.b % 60 + 1) (5 + c.b % 60 + 2 + c.c % 6)) ?_ ?_
      · simp (maxSteps := 2000000) only [okA, ↓okP, Nat.reduceAdd, Nat.reduceMul, Nat.reduceSub, Nat.reduceLT, Nat.reduceLeDiff, Nat.reduceEqDiff, Nat.reduceBEq, ↓reduceIte, reduceCtorEq]
      simp (maxSteps := 2000000) only [vcA, ↓vcP, ↓reduceIte, reduceCtorEq, Nat.reduceAdd, Nat.reduceMul, Nat.reduceSub, Nat.reduceLT, Nat.reduceLeDiff, Nat.reduceEqDiff, Nat.reduceBEq, Nat.reduceBNe, Nat.reduceGT, Nat.reduceDiv, Nat.reduceMod, Int.reduceAdd, Int.reduceSub, Int.reduceNeg, Int.reduceLT, Int.reduceLE, Int.reduceEq, Int.reduceToNat, fA, otA_len, gc, u1, u2, u3, u4, u5, u6, u7, u8, u9, u10, u11, u12, u13, tk]
      refine ⟨⟨by omega, by simp only [maxLen]; omega⟩, fun _ => ?_⟩
      repeat (first | refine ⟨by kernel_rfl, ?_⟩ | refine ⟨⟨by kernel_rfl, by kernel_rfl⟩, ?_⟩ | refine ⟨⟨by kernel_rfl, by kernel_rfl, by kernel_rfl⟩, ?_⟩ | refine ⟨⟨by kernel_rfl, by kernel_rfl, by kernel_rfl, by kernel_rfl⟩, ?_⟩ | refine ⟨⟨by kernel_rfl, by kernel_rfl, by kernel_rfl, by kernel_rfl, by kernel_rfl⟩, ?_⟩ | refine ⟨⟨by kernel_rfl, by kernel_rfl, by kernel_rfl, by kernel_rfl, by kernel_rfl, by kernel_rfl⟩, ?_⟩ | refine ⟨⟨by kernel_rfl, by kernel_rfl, by kernel_rfl, by kernel_rfl, by kernel_rfl, by kernel_rfl, by kernel_rfl⟩, ?_⟩ | refine ⟨⟨by kernel_rfl, by kernel_rfl, by kernel_rfl, by kernel_rfl, by kernel_rfl, by kernel_rfl, by kernel_rfl, by kernel_rfl⟩, ?_⟩ | refine ⟨⟨by kernel_rfl, by kernel_rfl, by kernel_rfl, by kernel_rfl, by kernel_rfl, by kernel_rfl, by kernel_rfl, by kernel_rfl, by kernel_rfl⟩, ?_⟩ | refine ⟨⟨by kernel_rfl, by kernel_rfl, by kernel_rfl, by kernel_rfl, by kernel_rfl, by kernel_rfl, by kernel_rfl, by kernel_rfl, by kernel_rfl, by kernel_rfl⟩, ?_⟩ | refine ⟨⟨by kernel_rfl, by kernel_rfl, by kernel_rfl, by kernel_rfl, by kernel_rfl, by kernel_rfl, by kernel_rfl, by kernel_rfl, by kernel_rfl, by kernel_rfl, by kernel_rfl⟩, ?_⟩ | refine ⟨⟨by kernel_rfl, by kernel_rfl, by kernel_rfl, by kernel_rfl, by kernel_rfl, by kernel_rfl, by kernel_rfl, by kernel_rfl, by kernel_rfl, by kernel_rfl, by kernel_rfl, by kernel_rfl⟩, ?_⟩ | refine ⟨⟨by kernel_rfl, by kernel_rfl, by kernel_rfl, by kernel_rfl, by kernel_rfl, by kernel_rfl, by kernel_rfl, by kernel_rfl, by kernel_rfl, by kernel_rfl, by kernel_rfl, by kernel_rfl, by kernel_rfl⟩, ?_⟩)
      have et : (x.cr.take (j + 1)).map (crkX x) = (x.cr.take j).map (crkX x) ++ [crkX x c] := by
        rw [List.take_add_one, List.map_append, hc]
        unfold nth
        simp [List.getD_eq_getElem?_getD, cj1]
      refine hB2 _ ⟨j + 1, by omega⟩ [some 632] (by simp only; omega) rfl ?_
      simp only [et, List.map_append, List.map_cons, List.map_nil]
      simp (maxSteps := 2000000) only [enA, ↓enP, Nat.reduceAdd, Nat.reduceMul, Nat.reduceSub, Nat.reduceLT, Nat.reduceLeDiff, Nat.reduceEqDiff, Nat.reduceBEq, ↓reduceIte, reduceCtorEq, fA, ej, crkX]
      exact ⟨otA_eqr _ x, rfl⟩
    have p5 : (j < x.cr.length) = False ∨ ((j < x.cr.length) = True ∧ ((j : Int) < 2) = False) := by
      rcases Nat.lt_or_ge j x.cr.length with g2 | g2
      · exact .inr ⟨eq_true g2, eq_false (by omega)⟩
      · exact .inl (eq_false (by omega))
    have hjj : j = min x.cr.length 2 := by omega
    clear hB2
    have v1 : IntKind.i64.wrap x.s0 = x.s0 := wrap_id (by omega) (by omega)
    have v2 : IntKind.i64.wrap x.s1 = x.s1 := wrap_id (by omega) (by omega)
    have v3 : IntKind.i64.wrap x.s2 = x.s2 := wrap_id (by omega) (by omega)
    have v4 : IntKind.i64.wrap x.s3 = x.s3 := wrap_id (by omega) (by omega)
    have v5 : x.s0.tmod 3 = x.s0 % 3 := Int.tmod_eq_emod_of_nonneg hs0.1
    have v6 : x.s1.tmod 14 = x.s1 % 14 := Int.tmod_eq_emod_of_nonneg hs1.1
    have v7 : x.s2.tmod 4 = x.s2 % 4 := Int.tmod_eq_emod_of_nonneg hs2.1
    have v8 : x.s3.tmod 2 = x.s3 % 2 := Int.tmod_eq_emod_of_nonneg hs3.1
    have v9 : IntKind.i64.wrap (x.s0 % 3) = x.s0 % 3 := wrap_id (by omega) (by omega)
    have v10 : IntKind.i64.wrap (x.s1 % 14) = x.s1 % 14 := wrap_id (by omega) (by omega)
    have v11 : IntKind.i64.wrap (x.s2 % 4) = x.s2 % 4 := wrap_id (by omega) (by omega)
    have v12 : IntKind.i64.wrap (x.s3 % 2) = x.s3 % 2 := wrap_id (by omega) (by omega)
    have v13 : IntKind.i64.wrap (1 + x.s0 % 3) = 1 + x.s0 % 3 := wrap_id (by omega) (by omega)
    have v14 : IntKind.i64.wrap (3 + x.s1 % 14) = 3 + x.s1 % 14 := wrap_id (by omega) (by omega)
    have gs0 : (List.take 1 (List.drop 26 (otA x))).headD .un = .v (.int .u8 x.s0) := rfl
    have gs1 : (List.take 1 (List.drop 27 (otA x))).headD .un = .v (.int .u8 x.s1) := rfl
    have gs2 : (List.take 1 (List.drop 28 (otA x))).headD .un = .v (.int .u8 x.s2) := rfl
    have gs3 : (List.take 1 (List.drop 29 (otA x))).headD .un = .v (.int .u8 x.s3) := rfl
    have gc : (List.take 1 (List.drop 25 (otA x))).headD .un = .sl 3 (x.cr.map c3R) := rfl
    rcases p5 with p1 | ⟨p1, p2⟩
    case' inl => simp (maxSteps := 2000000) only [vcA, ↓vcP, ↓reduceIte, reduceCtorEq, Nat.reduceAdd, Nat.reduceMul, Nat.reduceSub, Nat.reduceLT, Nat.reduceLeDiff, Nat.reduceEqDiff, Nat.reduceBEq, Nat.reduceBNe, Nat.reduceGT, Nat.reduceDiv, Nat.reduceMod, Int.reduceAdd, Int.reduceSub, Int.reduceNeg, Int.reduceLT, Int.reduceLE, Int.reduceEq, Int.reduceToNat, fA, p1, otA_len, gc, gs0, gs1, gs2, gs3, v1, v2, v3, v4, v5, v6, v7, v8, v9, v10, v11, v12, v13, v14]
    case' inr => simp (maxSteps := 2000000) only [vcA, ↓vcP, ↓reduceIte, reduceCtorEq, Nat.reduceAdd, Nat.reduceMul, Nat.reduceSub, Nat.reduceLT, Nat.reduceLeDiff, Nat.reduceEqDiff, Nat.reduceBEq, Nat.reduceBNe, Nat.reduceGT, Nat.reduceDiv, Nat.reduceMod, Int.reduceAdd, Int.reduceSub, Int.reduceNeg, Int.reduceLT, Int.reduceLE, Int.reduceEq, Int.reduceToNat, fA, p1, p2, otA_len, gc, gs0, gs1, gs2, gs3, v1, v2, v3, v4, v5, v6, v7, v8, v9, v10, v11, v12, v13, v14]
    all_goals
      have tj : x.cr.take j = x.cr.take 2 := by
        rcases Nat.lt_or_ge x.cr.length 2 with g | g
        · rw [List.take_of_length_le (by omega), List.take_of_length_le (by omega)]
        · rw [show j = 2 by omega]
      have cl : (madeX x).cracks.length = j := by
        show ((x.cr.take 2).map (crkX x)).length = j
        rw [← tj]
        simp
        omega
      refine hR _ (fin_of1 [some 112, some 113, some 176] ?_)
      rw [cl]
      simp (maxSteps := 2000000) only [enA, ↓enP, Nat.reduceAdd, Nat.reduceMul, Nat.reduceSub, Nat.reduceLT, Nat.reduceLeDiff, Nat.reduceEqDiff, Nat.reduceBEq, ↓reduceIte, reduceCtorEq, fA, sawX]
      rw [tj]
      exact ⟨rfl, rfl, rfl⟩
  replace ci : i < nX x := Decidable.not_not.1 ci
  have pi1 : (i < nX x) = True := eq_true ci
  have pi2 : (nX x ≤ i) = False := eq_false (by omega)
  have pi3 : ((i : Int) < 6) = True := eq_true (by omega)
  have ei : IntKind.i64.wrap ((i : Int) + 1) = ((i + 1 : Nat) : Int) := wrap_id (by omega) (by omega)
  have hb := fun j => hg j
  unfold By at hb
  have a1 : ∀ j, IntKind.i64.wrap (x.g j) = x.g j := fun j => by have := hb j; exact wrap_id (by omega) (by omega)
  have a2 : ∀ j, (x.g j).tmod 20 = x.g j % 20 := fun j => Int.tmod_eq_emod_of_nonneg (hb j).1
  have a3 : ∀ j, (x.g j).tmod 60 = x.g j % 60 := fun j => Int.tmod_eq_emod_of_nonneg (hb j).1
  have a4 : ∀ j, (x.g j).tmod 4 = x.g j % 4 := fun j => Int.tmod_eq_emod_of_nonneg (hb j).1
  have a5 : ∀ j, IntKind.i64.wrap (x.g j % 20) = x.g j % 20 := fun j => wrap_id (by omega) (by omega)
  have a6 : ∀ j, IntKind.i64.wrap (x.g j % 60) = x.g j % 60 := fun j => wrap_id (by omega) (by omega)
  have a7 : ∀ j, IntKind.i64.wrap (x.g j % 4) = x.g j % 4 := fun j => wrap_id (by omega) (by omega)
  have a8 : ∀ j, IntKind.i64.wrap (40 + x.g j % 60) = 40 + x.g j % 60 := fun j => wrap_id (by omega) (by omega)
  have a9 : ∀ j k, IntKind.i64.wrap (x.g j % 20 + x.g k % 4) = x.g j % 20 + x.g k % 4 := fun j k => wrap_id (by omega) (by omega)
  have a10 : ∀ j k, IntKind.i64.wrap (40 + x.g j % 60 + x.g k % 4) = 40 + x.g j % 60 + x.g k % 4 := fun j k => wrap_id (by omega) (by omega)
  have k1 : (List.take 1 (List.drop (1 + i * 2) (otA x))).headD .un = .v (.int .u8 (x.g (2 * i))) := by rw [Nat.mul_comm i 2]; exact otA_get x (by omega)
  have k2 : (List.take 1 (List.drop (1 + i * 2 + 1) (otA x))).headD .un = .v (.int .u8 (x.g (2 * i + 1))) := by
    have := otA_get x (n := 2 * i + 1) (by omega)
    rw [show 1 + i * 2 + 1 = 1 + (2 * i + 1) by omega]; exact this
  have k3 : (List.take 1 (List.drop (13 + i * 2) (otA x))).headD .un = .v (.int .u8 (x.g (12 + 2 * i))) := by
    have := otA_get x (n := 12 + 2 * i) (by omega)
    rw [show 13 + i * 2 = 1 + (12 + 2 * i) by omega]; exact this
  have k4 : (List.take 1 (List.drop (13 + i * 2 + 1) (otA x))).headD .un = .v (.int .u8 (x.g (12 + 2 * i + 1))) := by
    have := otA_get x (n := 12 + 2 * i + 1) (by omega)
    rw [show 13 + i * 2 + 1 = 1 + (12 + 2 * i + 1) by omega]; exact this
  have j1 : (1 + i * 2 ≤ 29) = True := eq_true (by omega)
  have j5 : (1 + i * 2 ≤ 28) = True := eq_true (by omega)
  have j6 : (13 + i * 2 ≤ 28) = True := eq_true (by omega)
  have j2 : (1 + i * 2 + 1 ≤ 29) = True := eq_true (by omega)
  have j3 : (13 + i * 2 ≤ 29) = True := eq_true (by omega)
  have j4 : (13 + i * 2 + 1 ≤ 29) = True := eq_true (by omega)
  have bl : ((List.range i).map (botX x)).length = i := by simp
  have tl : ((List.range i).map (topX x)).length = i := by simp
  simp (maxSteps := 2000000) only [vcA, ↓vcP, ↓reduceIte, reduceCtorEq, Nat.reduceAdd, Nat.reduceMul, Nat.reduceSub, Nat.reduceLT, Nat.reduceLeDiff, Nat.reduceEqDiff, Nat.reduceBEq, Nat.reduceBNe, Nat.reduceGT, Nat.reduceDiv, Nat.reduceMod, Int.reduceAdd, Int.reduceSub, Int.reduceNeg, Int.reduceLT, Int.reduceLE, Int.reduceEq, Int.reduceToNat, fA, pi1, pi2, pi3, otA_len, a1, a2, a3, a4, a5, a6, a7, a8, a9, a10, k1, k2, k3, k4, j1, j2, j3, j4, j5, j6]
  refine onF_data (span_spec (x.g (2 * i) % 20) (x.g (2 * i) % 20 + x.g (2 * i + 1) % 4)) ?_ ?_
  · simp (maxSteps := 2000000) only [okA, ↓okP, Nat.reduceAdd, Nat.reduceMul, Nat.reduceSub, Nat.reduceLT, Nat.reduceLeDiff, Nat.reduceEqDiff, Nat.reduceBEq, ↓reduceIte, reduceCtorEq]
  simp (maxSteps := 2000000) only [vcA, ↓vcP, ↓reduceIte, reduceCtorEq, Nat.reduceAdd, Nat.reduceMul, Nat.reduceSub, Nat.reduceLT, Nat.reduceLeDiff, Nat.reduceEqDiff, Nat.reduceBEq, Nat.reduceBNe, Nat.reduceGT, Nat.reduceDiv, Nat.reduceMod, Int.reduceAdd, Int.reduceSub, Int.reduceNeg, Int.reduceLT, Int.reduceLE, Int.reduceEq, Int.reduceToNat, fA, pi1, pi2, pi3, otA_len, a1, a2, a3, a4, a5, a6, a7, a8, a9, a10, k1, k2, k3, k4, j1, j2, j3, j4, j5, j6, bl, tl]
  refine ⟨⟨by omega, by simp only [maxLen]; omega⟩, fun _ => ?_⟩
  repeat (first | refine ⟨by kernel_rfl, ?_⟩ | refine ⟨⟨by kernel_rfl, by kernel_rfl⟩, ?_⟩ | refine ⟨⟨by kernel_rfl, by kernel_rfl, by kernel_rfl⟩, ?_⟩ | refine ⟨⟨by kernel_rfl, by kernel_rfl, by kernel_rfl, by kernel_rfl⟩, ?_⟩ | refine ⟨⟨by kernel_rfl, by kernel_rfl, by kernel_rfl, by kernel_rfl, by kernel_rfl⟩, ?_⟩ | refine ⟨⟨by kernel_rfl, by kernel_rfl, by kernel_rfl, by kernel_rfl, by kernel_rfl, by kernel_rfl⟩, ?_⟩ | refine ⟨⟨by kernel_rfl, by kernel_rfl, by kernel_rfl, by kernel_rfl, by kernel_rfl, by kernel_rfl, by kernel_rfl⟩, ?_⟩ | refine ⟨⟨by kernel_rfl, by kernel_rfl, by kernel_rfl, by kernel_rfl, by kernel_rfl, by kernel_rfl, by kernel_rfl, by kernel_rfl⟩, ?_⟩ | refine ⟨⟨by kernel_rfl, by kernel_rfl, by kernel_rfl, by kernel_rfl, by kernel_rfl, by kernel_rfl, by kernel_rfl, by kernel_rfl, by kernel_rfl⟩, ?_⟩ | refine ⟨⟨by kernel_rfl, by kernel_rfl, by kernel_rfl, by kernel_rfl, by kernel_rfl, by kernel_rfl, by kernel_rfl, by kernel_rfl, by kernel_rfl, by kernel_rfl⟩, ?_⟩ | refine ⟨⟨by kernel_rfl, by kernel_rfl, by kernel_rfl, by kernel_rfl, by kernel_rfl, by kernel_rfl, by kernel_rfl, by kernel_rfl, by kernel_rfl, by kernel_rfl, by kernel_rfl⟩, ?_⟩ | refine ⟨⟨by kernel_rfl, by kernel_rfl, by kernel_rfl, by kernel_rfl, by kernel_rfl, by kernel_rfl, by kernel_rfl, by kernel_rfl, by kernel_rfl, by kernel_rfl, by kernel_rfl, by kernel_rfl⟩, ?_⟩ | refine ⟨⟨by kernel_rfl, by kernel_rfl, by kernel_rfl, by kernel_rfl, by kernel_rfl, by kernel_rfl, by kernel_rfl, by kernel_rfl, by kernel_rfl, by kernel_rfl, by kernel_rfl, by kernel_rfl, by kernel_rfl⟩, ?_⟩)
  refine onF_data (span_spec (40 + x.g (12 + 2 * i) % 60) (40 + x.g (12 + 2 * i) % 60 + x.g (12 + 2 * i + 1) % 4)) ?_ ?_
  · simp (maxSteps := 2000000) only [okA, ↓okP, Nat.reduceAdd, Nat.reduceMul, Nat.reduceSub, Nat.reduceLT, Nat.reduceLeDiff, Nat.reduceEqDiff, Nat.reduceBEq, ↓reduceIte, reduceCtorEq]
  simp (maxSteps := 2000000) only [vcA, ↓vcP, ↓reduceIte, reduceCtorEq, Nat.reduceAdd, Nat.reduceMul, Nat.reduceSub, Nat.reduceLT, Nat.reduceLeDiff, Nat.reduceEqDiff, Nat.reduceBEq, Nat.reduceBNe, Nat.reduceGT, Nat.reduceDiv, Nat.reduceMod, Int.reduceAdd, Int.reduceSub, Int.reduceNeg, Int.reduceLT, Int.reduceLE, Int.reduceEq, Int.reduceToNat, fA, pi1, pi2, pi3, otA_len, a1, a2, a3, a4, a5, a6, a7, a8, a9, a10, k1, k2, k3, k4, j1, j2, j3, j4, j5, j6, bl, tl]
  refine ⟨⟨by omega, by simp only [maxLen]; omega⟩, fun _ => ?_⟩
  repeat (first | refine ⟨by kernel_rfl, ?_⟩ | refine ⟨⟨by kernel_rfl, by kernel_rfl⟩, ?_⟩ | refine ⟨⟨by kernel_rfl, by kernel_rfl, by kernel_rfl⟩, ?_⟩ | refine ⟨⟨by kernel_rfl, by kernel_rfl, by kernel_rfl, by kernel_rfl⟩, ?_⟩ | refine ⟨⟨by kernel_rfl, by kernel_rfl, by kernel_rfl, by kernel_rfl, by kernel_rfl⟩, ?_⟩ | refine ⟨⟨by kernel_rfl, by kernel_rfl, by kernel_rfl, by kernel_rfl, by kernel_rfl, by kernel_rfl⟩, ?_⟩ | refine ⟨⟨by kernel_rfl, by kernel_rfl, by kernel_rfl, by kernel_rfl, by kernel_rfl, by kernel_rfl, by kernel_rfl⟩, ?_⟩ | refine ⟨⟨by kernel_rfl, by kernel_rfl, by kernel_rfl, by kernel_rfl, by kernel_rfl, by kernel_rfl, by kernel_rfl, by kernel_rfl⟩, ?_⟩ | refine ⟨⟨by kernel_rfl, by kernel_rfl, by kernel_rfl, by kernel_rfl, by kernel_rfl, by kernel_rfl, by kernel_rfl, by kernel_rfl, by kernel_rfl⟩, ?_⟩ | refine ⟨⟨by kernel_rfl, by kernel_rfl, by kernel_rfl, by kernel_rfl, by kernel_rfl, by kernel_rfl, by kernel_rfl, by kernel_rfl, by kernel_rfl, by kernel_rfl⟩, ?_⟩ | refine ⟨⟨by kernel_rfl, by kernel_rfl, by kernel_rfl, by kernel_rfl, by kernel_rfl, by kernel_rfl, by kernel_rfl, by kernel_rfl, by kernel_rfl, by kernel_rfl, by kernel_rfl⟩, ?_⟩ | refine ⟨⟨by kernel_rfl, by kernel_rfl, by kernel_rfl, by kernel_rfl, by kernel_rfl, by kernel_rfl, by kernel_rfl, by kernel_rfl, by kernel_rfl, by kernel_rfl, by kernel_rfl, by kernel_rfl⟩, ?_⟩ | refine ⟨⟨by kernel_rfl, by kernel_rfl, by kernel_rfl, by kernel_rfl, by kernel_rfl, by kernel_rfl, by kernel_rfl, by kernel_rfl, by kernel_rfl, by kernel_rfl, by kernel_rfl, by kernel_rfl, by kernel_rfl⟩, ?_⟩)
  refine hB _ ⟨i + 1, by omega⟩ [some 416, some 536] (by simp only; omega) rfl ?_
  simp only [List.range_succ, List.map_append, List.map_cons, List.map_nil]
  simp (maxSteps := 2000000) only [enA, ↓enP, Nat.reduceAdd, Nat.reduceMul, Nat.reduceSub, Nat.reduceLT, Nat.reduceLeDiff, Nat.reduceEqDiff, Nat.reduceBEq, ↓reduceIte, reduceCtorEq, fA, ei, botX, topX]
  exact ⟨otA_eqr _ x, rfl, rfl⟩
end Go.Proofs.YtciegkpjenjaeaaDoor.Ab.T01
namespace Go.Proofs.YtciegkpjenjaeaaDoor.Ab.T01
open Go Go.RowKit
set_option linter.unusedSimpArgs false
set_option linter.unusedVariables false
set_option maxRecDepth 100000
theorem blade_spec (b : Bl) (h1 : b.bottom.length < 1000000) (h2 : b.top.length < 1000000) (h3 : b.cracks.length < 1000000) : SpecF Tryd.prog 6 [.agg [.sl 2 (b.bottom.map spR), .sl 2 (b.top.map spR), .v (.int .i64 b.bend), .sl 6 (b.cracks.map crR)]]
    (.agg [.ob 0 b.bottom.length, .ob 1 b.top.length, .v (.int .i64 b.bend), .ob 2 b.cracks.length]) [.row 50 2 (b.bottom.map spR) false, .row 50 2 (b.top.map spR) false, .row 59 6 (b.cracks.map crR) false] := by
  refine spec_go (N := 18) (rs := [.cell 2 32]) (eq := eqs) rfl rfl fun_6 rfl (by kernel_rfl) (by kernel_rfl) (by simp) (by simp) (by simp) (by simp) fun R hR => ?_
  simp (maxSteps := 2000000) only [vcA, ↓vcP, ↓reduceIte, reduceCtorEq, Nat.reduceAdd, Nat.reduceMul, Nat.reduceSub, Nat.reduceLT, Nat.reduceLeDiff, Nat.reduceEqDiff, Nat.reduceBEq, Nat.reduceBNe, Nat.reduceGT, Nat.reduceDiv, Nat.reduceMod, Int.reduceAdd, Int.reduceSub, Int.reduceNeg, Int.reduceLT, Int.reduceLE, Int.reduceEq, Int.reduceToNat, fA]
  repeat (first | refine ⟨⟨by omega, by simp only [maxLen]; omega⟩, fun _ => ?_⟩ | refine ⟨by kernel_rfl, ?_⟩ | refine ⟨⟨by kernel_rfl, by kernel_rfl⟩, ?_⟩ | refine ⟨⟨by kernel_rfl, by kernel_rfl, by kernel_rfl⟩, ?_⟩ | refine ⟨⟨by kernel_rfl, by kernel_rfl, by kernel_rfl, by kernel_rfl⟩, ?_⟩)
  refine hR _ (fin_of1 [some 48, some 80, some 128] ?_)
  simp (maxSteps := 2000000) only [enA, ↓enP, Nat.reduceAdd, Nat.reduceMul, Nat.reduceSub, Nat.reduceLT, Nat.reduceLeDiff, Nat.reduceEqDiff, Nat.reduceBEq, ↓reduceIte, reduceCtorEq, fA]
theorem bladeF_spec (b : Bl) (h1 : b.bottom.length < 1000000) (h2 : b.top.length < 1000000) (h3 : b.cracks.length < 1000000) : SpecF Tryd.prog 6 [.agg [.sl 2 (b.bottom.map spR), .sl 2 (b.top.map spR), .v (.int .i64 b.bend), .sl 6 (b.cracks.map crR)]]
    (.agg [.sl 2 (b.bottom.map spR), .sl 2 (b.top.map spR), .v (.int .i64 b.bend), .sl 6 (b.cracks.map crR)]) [] := (blade_spec b h1 h2 h3).frz
theorem mostF_spec (b : Bl) (s : Sw) (h1 : b.bottom.length < 1000000) (h2 : b.top.length < 1000000) : SpecF Tryd.prog 5 [.agg [.sl 2 (b.bottom.map spR), .sl 2 (b.top.map spR), .v (.int .i64 b.bend), .sl 6 (b.cracks.map crR)], .agg [.v (.int .i64 s.long), .v (.int .i64 s.wide), .v (.int .i64 s.kerf), .v (.int .i64 s.across)]]
    (.tup [.sl 2 ((mostL b s).map plcR), .v (.int .i64 (openErr b s))]) [] := (mostB_spec b s h1 h2).frz
theorem madeF_spec (x : OT) (hx : x.Ok) : SpecF Tryd.prog 4 [.agg (otA x)]
    (.tup [.agg [.sl 2 ((madeX x).bottom.map spR), .sl 2 ((madeX x).top.map spR), .v (.int .i64 (madeX x).bend), .sl 6 ((madeX x).cracks.map crR)], .agg [.v (.int .i64 (sawX x).long), .v (.int .i64 (sawX x).wide), .v (.int .i64 (sawX x).kerf), .v (.int .i64 (sawX x).across)]]) [] := by
  have := made_spec x hx
  have e1 : (madeX x).bottom.length = nX x := by simp [madeX]
  have e2 : (madeX x).top.length = nX x := by simp [madeX]
  have := this.frz
  exact this
theorem range_nth {α : Type} [Inhabited α] (f : Nat → α) {n i : Nat} (hi : i < n) : nth ((List.range n).map f) i = f i := by
  unfold nth
  simp [List.getD_eq_getElem?_getD, hi]
theorem crack_ok {a f t1 t2 : Int} {n : Nat} (ha : 0 ≤ a ∧ a < n) (hf : 0 ≤ f ∧ f ≤ 200) {f2 : Int} (h2 : f ≤ f2 ∧ f2 ≤ t1) (h3 : t1 ≤ t2 ∧ t2 ≤ 300) : isCrack ⟨(a, a), (f, f2), (t1, t2)⟩ n = true := by
  unfold isCrack isEdges isHeight isSpan
  simp [betw]
  omega
theorem made_good {x : OT} (hx : x.Ok) : Good (madeX x) ∧ sawOk (sawX x) = true ∧ (madeX x).bottom.length = nX x ∧ (madeX x).cracks.length ≤ 2 ∧ 1 ≤ nX x ∧ nX x ≤ 6 := by
  obtain ⟨hm, hg, hcr, hs0, hs1, hs2, hs3⟩ := hx
  unfold By at *
  have hn : 1 ≤ nX x ∧ nX x ≤ 6 := by unfold nX; omega
  have bl : (madeX x).bottom.length = nX x := by simp [madeX]
  have tl : (madeX x).top.length = nX x := by simp [madeX]
  have cl : (madeX x).cracks.length ≤ 2 := by simp [madeX]; omega
  refine ⟨⟨by rw [bl, tl], by rw [bl]; omega, rfl, fun s hs => ?_, fun s hs => ?_, fun i hi => ?_, by omega, fun c hc => ?_⟩, ?_, bl, cl, hn⟩
  · obtain ⟨i, _, rfl⟩ := List.mem_map.1 hs
    have := hg (2 * i)
    have := hg (2 * i + 1)
    simp only [botX]
    omega
  · obtain ⟨i, _, rfl⟩ := List.mem_map.1 hs
    have := hg (12 + 2 * i)
    have := hg (12 + 2 * i + 1)
    simp only [topX]
    omega
  · rw [bl] at hi
    show (nth ((List.range (nX x)).map (botX x)) i).2 ≤ (nth ((List.range (nX x)).map (topX x)) i).1
    rw [range_nth _ hi, range_nth _ hi]
    simp only [botX, topX]
    omega
  · rw [bl]
    obtain ⟨d, hd, rfl⟩ := List.mem_map.1 hc
    obtain ⟨da, db, dc⟩ := hcr d (List.mem_of_mem_take hd)
    unfold By at *
    have a0 := Int.emod_nonneg d.a (b := (nX x : Int)) (by omega)
    have a1 := Int.emod_lt_of_pos d.a (b := (nX x : Int)) (by omega)
    exact crack_ok ⟨a0, a1⟩ (by omega) (by omega) (by omega)
  · unfold sawOk sawX
    simp [betw]
    omega
end Go.Proofs.YtciegkpjenjaeaaDoor.Ab.T01
