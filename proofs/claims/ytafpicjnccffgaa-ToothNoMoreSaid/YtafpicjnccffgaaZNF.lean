/- The sticks that are sawn in truth. -/
import Derived.Test.YtafpicjnccffgaaZNC
namespace Go.Proofs.Ytafpicjnccffgaa.Ab.T01
open Go Go.RowKit
set_option linter.unusedSimpArgs false
set_option linter.unusedVariables false
set_option maxRecDepth 100000
set_option pp.maxSteps 1000000
set_option pp.deepTerms true
def u8R (n : Int) : List DV := [.v (.int .u8 n)]
/-- What the bytes say of the k-th column that is looked at. -/
def bytK (w : List Int) (k : Nat) : Int := if 0 < w.length then nth w (k % w.length) else 0
def ysW (g : Nat → Int → Bool) (w : List Int) (st k x : Nat) : List Int := if bytK w k % 4 = 3 then [] else grd (g x) st (bytK w k / 4 % 8).toNat
def sawF (g : Nat → Int → Bool) (w : List Int) (n long step st : Nat) : Nat → Nat → Nat → List (Int × Int)
  | 0, _, _ => []
  | f + 1, x, k => if x + long ≤ n then (ysW g w st k x).map (fun y => ((x : Int), y)) ++ sawF g w n long step st f (if ysW g w st k x = [] then x + 1 else x + step) (k + 1) else []
theorem sawF_fuel {g : Nat → Int → Bool} {w : List Int} {n long step st : Nat} (hs : 1 ≤ step) (hl : 1 ≤ long) : ∀ (a b x k : Nat), n + 1 - x ≤ a → n + 1 - x ≤ b → sawF g w n long step st a x k = sawF g w n long step st b x k
  | 0, 0, _, _, _, _ => rfl
  | 0, b + 1, x, k, h, _ => by rw [sawF, sawF, if_neg (by omega)]
  | a + 1, 0, x, k, _, h => by rw [sawF, sawF, if_neg (by omega)]
  | a + 1, b + 1, x, k, h, h' => by
    rw [sawF, sawF]
    by_cases hc : x + long ≤ n
    · rw [if_pos hc, if_pos hc, sawF_fuel hs hl a b _ (k + 1) (by split <;> omega) (by split <;> omega)]
    · rw [if_neg hc, if_neg hc]
def sawG (g : Nat → Int → Bool) (w : List Int) (n long step st x k : Nat) : List (Int × Int) := sawF g w n long step st (n + 1 - x) x k
theorem sawG_end {g : Nat → Int → Bool} {w : List Int} {n long step st x k : Nat} (h : n < x + long) : sawG g w n long step st x k = [] := by
  unfold sawG
  cases n + 1 - x with
  | zero => rfl
  | succ f => rw [sawF, if_neg (by omega)]
theorem sawG_step {g : Nat → Int → Bool} {w : List Int} {n long step st x k : Nat} (hs : 1 ≤ step) (hl : 1 ≤ long) (h : x + long ≤ n) : sawG g w n long step st x k = (ysW g w st k x).map (fun y => ((x : Int), y)) ++ sawG g w n long step st (if ysW g w st k x = [] then x + 1 else x + step) (k + 1) := by
  unfold sawG
  rw [show n + 1 - x = (n - x) + 1 by omega, sawF, if_pos h, sawF_fuel hs hl (n - x) (n + 1 - (if ysW g w st k x = [] then x + 1 else x + step)) _ _ (by split <;> omega) (by split <;> omega)]
theorem ysW_len (g : Nat → Int → Bool) (w : List Int) (st k x : Nat) : (ysW g w st k x).length ≤ 301 := by
  unfold ysW
  split
  · simp
  · exact Nat.le_trans (grd_len _ _) (by omega)
theorem sawF_len (g : Nat → Int → Bool) (w : List Int) (n long step st : Nat) : ∀ f x k, (sawF g w n long step st f x k).length ≤ 301 * f
  | 0, _, _ => by simp [sawF]
  | f + 1, x, k => by
    rw [sawF]
    split
    · have a := ysW_len g w st k x
      have b := sawF_len g w n long step st f (if ysW g w st k x = [] then x + 1 else x + step) (k + 1)
      rw [List.length_append, List.length_map]
      omega
    · simp
/-- They are cut one after another, and each is sound. -/
theorem saw_chain {g : Nat → Int → Bool} {w : List Int} {n long step st : Nat} {s : Sw} (hs : 1 ≤ step) (hl : 1 ≤ long) (h1 : 1 ≤ st) (hst : (st : Int) = s.wide + s.kerf) (hsp : (step : Int) = s.long + s.across) : ∀ r x k : Nat, n + 1 - x ≤ r →
    (sawG g w n long step st x k).Pairwise (After s) ∧ ∀ p ∈ sawG g w n long step st x k, (x : Int) ≤ p.1 ∧ p.1 + long ≤ n ∧ 0 ≤ p.2 ∧ p.2 ≤ 300 ∧ g p.1.toNat p.2 = true
  | 0, x, k, h => by rw [sawG_end (by omega)]; exact ⟨List.Pairwise.nil, fun p hp => by simp at hp⟩
  | r + 1, x, k, h => by
    by_cases hc : x + long ≤ n
    · rw [sawG_step hs hl hc]
      by_cases he : ysW g w st k x = []
      · rw [if_pos he, he]
        obtain ⟨i1, i2⟩ := saw_chain (g := g) (w := w) (n := n) hs hl h1 hst hsp r (x + 1) (k + 1) (by omega)
        exact ⟨i1, fun p hp => by have := i2 p hp; exact ⟨by omega, this.2⟩⟩
      · rw [if_neg he]
        obtain ⟨i1, i2⟩ := saw_chain (g := g) (w := w) (n := n) hs hl h1 hst hsp r (x + step) (k + 1) (by omega)
        have gy : (ysW g w st k x).Pairwise (fun a b => a + (st : Int) ≤ b) ∧ ∀ z ∈ ysW g w st k x, 0 ≤ z ∧ z ≤ 300 ∧ g x z = true := by
          unfold ysW
          split
          · exact ⟨List.Pairwise.nil, fun z hz => by simp at hz⟩
          · obtain ⟨a, b⟩ := grd_pair (g := g x) h1 _ (bytK w k / 4 % 8).toNat (Nat.le_refl _)
            exact ⟨a, fun z hz => by have := b z hz; exact ⟨by omega, this.2⟩⟩
        refine ⟨List.pairwise_append.2 ⟨col_pair gy.1 hst, i1, fun p hp q hq => ?_⟩, fun p hp => ?_⟩
        · obtain ⟨y, hy, rfl⟩ := List.mem_map.1 hp
          right
          have := (i2 q hq).1
          simp only
          omega
        · rcases List.mem_append.1 hp with hp | hp
          · obtain ⟨y, hy, rfl⟩ := List.mem_map.1 hp
            have := gy.2 y hy
            exact ⟨Int.le_refl _, by simp only; omega, this.1, this.2.1, by simpa using this.2.2⟩
          · have := i2 p hp
            exact ⟨by omega, this.2⟩
    · rw [sawG_end (by omega)]; exact ⟨List.Pairwise.nil, fun p hp => by simp at hp⟩
/-- What the law saws. -/
def sawnL (lo tp : List Int) (pk : List (Int × Int × Int)) (s : Sw) (w : List Int) : List (Int × Int) := sawG (fun x y => soundI (rV lo tp pk) s ((x : Int), y)) w lo.length s.long.toNat (stepN s) (stN s) 0 0
set_option maxHeartbeats 4000000 in
theorem sawn_spec (lo tp : List Int) (pk : List (Int × Int × Int)) (s : Sw) (w : List Int) (hs : sawOk s = true) (hlen : lo.length = tp.length) (h1 : lo.length ≤ 100) (h2 : pk.length ≤ 100) (hw : ∀ n ∈ w, By n) :
    SpecF Try.prog 24 [.agg [.sl 1 (lo.map iR), .sl 1 (tp.map iR), .sl 3 (pk.map pk3)], .agg [.v (.int .i64 s.long), .v (.int .i64 s.wide), .v (.int .i64 s.kerf), .v (.int .i64 s.across)], .sl 1 (w.map u8R)] (.sl 2 ((sawnL lo tp pk s w).map plcR)) [] := by
  refine SpecG.frz (r := .ob 0 (sawnL lo tp pk s w).length) (objs := [.row 42 2 ((sawnL lo tp pk s w).map plcR) false]) ?_
  have hs0 := hs
  unfold sawOk at hs0
  simp only [Bool.and_eq_true] at hs0
  have s1 := betw1 hs0.1.1
  have s2 := betw1 hs0.1.2
  have s3 := betw2 hs0.2
  have hst : 1 ≤ stepN s := by unfold stepN; omega
  have hsN : ((stepN s : Nat) : Int) = s.long + s.across := by unfold stepN; omega
  have hll : 1 ≤ s.long.toNat := by omega
  have t1 : 1 ≤ stN s := by unfold stN; omega
  have tN : ((stN s : Nat) : Int) = s.wide + s.kerf := by unfold stN; omega
  obtain ⟨L, hL⟩ : ∃ L : Nat, s.long = L := ⟨s.long.toNat, by omega⟩
  have eL : s.long.toNat = L := by omega
  have hg0 : ∀ x y : Nat, x + L ≤ lo.length → y ≤ 300 → SpecF Try.prog 30 [.agg [.sl 1 (lo.map iR), .sl 1 (tp.map iR), .sl 3 (pk.map pk3)], .agg [.v (.int .i64 s.long), .v (.int .i64 s.wide), .v (.int .i64 s.kerf), .v (.int .i64 s.across)], .agg [.v (.int .i64 (x : Int)), .v (.int .i64 (y : Int))]] (.v (.bool (soundI (rV lo tp pk) s ((x : Int), (y : Int))))) [] := fun x y hx hy =>
    real_spec lo tp pk s ((x : Int), (y : Int)) hs hlen h1 h2 ⟨by simp only; omega, by simp only; show (x : Int) + s.long ≤ (lo.length : Int); omega, by simp only; omega, by simp only; omega⟩
  rw [hL] at hg0
  have hW0 : sawnL lo tp pk s w = sawG (fun x y => soundI (rV lo tp pk) s ((x : Int), y)) w lo.length L (stepN s) (stN s) 0 0 := by unfold sawnL; rw [eL]
  obtain ⟨W, hW⟩ : ∃ W, W = sawnL lo tp pk s w := ⟨_, rfl⟩
  rw [← hW] at hW0 ⊢
  have hWl : W.length ≤ 301 * 101 := by
    rw [hW0]
    unfold sawG
    refine Nat.le_trans (sawF_len _ _ _ _ _ _ _ _ _) (Nat.mul_le_mul_left _ (by omega))
  clear hW
  obtain ⟨g, hg⟩ : ∃ g : Nat → Int → Bool, g = fun (x : Nat) (y : Int) => soundI (rV lo tp pk) s ((x : Int), y) := ⟨_, rfl⟩
  rw [← hg] at hW0
  have hg1 : ∀ x y : Nat, soundI (rV lo tp pk) s ((x : Int), (y : Int)) = g x (y : Int) := fun x y => by rw [hg]
  simp only [hg1] at hg0
  clear hg hg1
  rw [hL] at s1 hsN
  rw [eL] at hll
  rw [hL]
  clear hL eL hs hs0
  obtain ⟨st, hst'⟩ : ∃ n, n = stN s := ⟨_, rfl⟩
  obtain ⟨sp, hsp'⟩ : ∃ n, n = stepN s := ⟨_, rfl⟩
  rw [← hst'] at t1 tN hW0
  rw [← hsp'] at hst hsN hW0
  clear hst' hsp'
  have ew : IntKind.i64.wrap (s.wide + s.kerf) = ((st : Nat) : Int) := by rw [tN]; exact wrap_id (by omega) (by omega)
  have ea : IntKind.i64.wrap ((L : Int) + s.across) = ((sp : Nat) : Int) := by rw [hsN]; exact wrap_id (by omega) (by omega)
  have ea1 : IntKind.i64.wrap (((sp : Nat) : Int) - 1) = ((sp : Nat) : Int) - 1 := wrap_id (by omega) (by omega)
  refine spec_go (N := 76) (rs := [.tmp 6]) (eq := eqs) rfl rfl fun_24 rfl (by kernel_rfl) (by kernel_rfl) (by simp) (by simp) (by simp) (by simp) fun R hR => ?_
  simp (maxSteps := 2000000) only [vcA, ↓vcP, ↓reduceIte, reduceCtorEq, Nat.reduceAdd, Nat.reduceMul, Nat.reduceSub, Nat.reduceLT, Nat.reduceLeDiff, Nat.reduceEqDiff, Nat.reduceBEq, Nat.reduceBNe, Nat.reduceGT, Nat.reduceDiv, Nat.reduceMod, Int.reduceAdd, Int.reduceSub, Int.reduceNeg, Int.reduceLT, Int.reduceLE, Int.reduceEq, Int.reduceToNat, fA]
  refine goC_loop (α := {q : List (Int × Int) × Nat × Nat // q.1 ++ sawG g w lo.length L sp st q.2.1 q.2.2 = W ∧ q.2.2 ≤ q.2.1 ∧ q.2.1 ≤ lo.length + sp}) (fun y => ⟨[(2, .sl 1 (w.map u8R)), (3, .ptr 8 0), (4, .ptr 16 0), (7, .ob 64 y.1.1.length), (8, .v (.int .i64 (y.1.2.2 : Nat))), (9, .v (.int .i64 (y.1.2.1 : Nat)))], [(8, .box 59 [.sl 1 (lo.map iR), .sl 1 (tp.map iR), .sl 3 (pk.map pk3)]), (16, .box 27 [.v (.int .i64 L), .v (.int .i64 s.wide), .v (.int .i64 s.kerf), .v (.int .i64 s.across)]), (64, .row 42 2 (y.1.1.map plcR) false)]⟩) (fun y => lo.length + sp + 1 - y.1.2.1) ⟨([], 0, 0), by simp only [List.nil_append]; exact hW0.symm, Nat.le_refl _, Nat.zero_le _⟩ [some 32] ?_ ?_
  · simp (maxSteps := 2000000) only [enA, ↓enP, Nat.reduceAdd, Nat.reduceMul, Nat.reduceSub, Nat.reduceLT, Nat.reduceLeDiff, Nat.reduceEqDiff, Nat.reduceBEq, ↓reduceIte, reduceCtorEq, fA]
    simp
  intro y B hB
  obtain ⟨⟨acc, x, k⟩, hq, hk, hx⟩ := y
  simp only at hB hq hk hx ⊢
  have el : IntKind.i64.wrap ((x : Int) + (L : Int)) = ((x + L : Nat) : Int) := by rw [wrap_id (by omega) (by omega)]; omega
  have ek : IntKind.i64.wrap ((k : Int) + 1) = ((k + 1 : Nat) : Int) := wrap_id (by omega) (by omega)
  have ex : IntKind.i64.wrap ((x : Int) + 1) = ((x + 1 : Nat) : Int) := wrap_id (by omega) (by omega)
  have ex2 : IntKind.i64.wrap ((x : Int) + (((sp : Nat) : Int) - 1)) = ((x + sp - 1 : Nat) : Int) := by rw [wrap_id (by omega) (by omega)]; omega
  have ex3 : IntKind.i64.wrap (((x + sp - 1 : Nat) : Int) + 1) = ((x + sp : Nat) : Int) := by rw [wrap_id (by omega) (by omega)]; omega
  have hal : acc.length ≤ 301 * 101 := by rw [← hq] at hWl; simp at hWl; omega
  by_cases hc : x + L ≤ lo.length
  · have pc : (x + L ≤ lo.length) = True := eq_true hc
    have pc2 : (((x + L : Nat) : Int) ≤ (lo.length : Int)) = True := eq_true (by omega)
    rw [sawG_step hst hll hc] at hq
    by_cases hw0 : 0 < w.length
    · obtain ⟨v, hv⟩ : ∃ v, v = bytK w k := ⟨_, rfl⟩
      have hi : k % w.length < w.length := Nat.mod_lt _ hw0
      have hkv : v = nth w (k % w.length) := by rw [hv]; unfold bytK; rw [if_pos hw0]
      have hb : 0 ≤ v ∧ v < 256 := by rw [hkv]; exact hw _ (nth_mem hi)
      have em : (k : Int).tmod (w.length : Int) = ((k % w.length : Nat) : Int) := by rw [Int.tmod_eq_emod_of_nonneg (by omega)]; omega
      have pi : (k % w.length < w.length) = True := eq_true hi
      have hkv' : nth w (k % w.length) = v := hkv.symm
      have pw : (0 < w.length) = True := eq_true hw0
      have pw1 : ((w.length : Int) > 0) = True := eq_true (by omega)
      have pw2 : ((w.length : Int) ≤ 0) = False := eq_false (by omega)
      have pw3 : ((w.length : Int) = 0) = False := eq_false (by omega)
      have pw4 : (0 ≤ ((k % w.length : Nat) : Int)) = True := eq_true (by omega)
      have pw5 : (((k % w.length : Nat) : Int) < (w.length : Int)) = True := eq_true (by omega)
      have pc8 : IntKind.i64.wrap v = v := wrap_id (by omega) (by omega)
      have tv4 : v.tmod 4 = v % 4 := Int.tmod_eq_emod_of_nonneg (by omega)
      have td4 : v.tdiv 4 = v / 4 := Int.tdiv_eq_ediv_of_nonneg (by omega)
      have tv8 : (v / 4).tmod 8 = (((v / 4 % 8).toNat : Nat) : Int) := by rw [Int.tmod_eq_emod_of_nonneg (by omega)]; omega
      have wd : IntKind.i64.wrap (v / 4) = v / 4 := wrap_id (by omega) (by omega)
      have hy0 : (v / 4 % 8).toNat ≤ 7 := by omega
      by_cases h3 : v % 4 = 3
      · have b3 : (v % 4 == 3) = true := by rw [beq_iff_eq]; exact h3
        have hys : ysW g w st k x = [] := by unfold ysW; rw [← hv, if_pos h3]
        rw [if_pos hys, hys, List.map_nil, List.nil_append] at hq
        simp (maxSteps := 2000000) only [vcA, ↓vcP, ↓reduceIte, reduceCtorEq, Nat.reduceAdd, Nat.reduceMul, Nat.reduceSub, Nat.reduceLT, Nat.reduceLeDiff, Nat.reduceEqDiff, Nat.reduceBEq, Nat.reduceBNe, Nat.reduceGT, Nat.reduceDiv, Nat.reduceMod, Int.reduceAdd, Int.reduceSub, Int.reduceNeg, Int.reduceLT, Int.reduceLE, Int.reduceEq, Int.reduceToNat, fA, el, pc, pc2, u8R, em, pi, hkv', pw, pw1, pw2, pw3, pw4, pw5, pc8, tv4, b3, ek, ex]
        refine hB _ ⟨(acc, x + 1, k + 1), hq, by simp only; omega, by simp only; omega⟩ [some 64] (by simp only; omega) rfl ?_
        simp (maxSteps := 2000000) only [enA, ↓enP, Nat.reduceAdd, Nat.reduceMul, Nat.reduceSub, Nat.reduceLT, Nat.reduceLeDiff, Nat.reduceEqDiff, Nat.reduceBEq, ↓reduceIte, reduceCtorEq, fA, ek, ex]
      · have b3 : (v % 4 == 3) = false := by rw [beq_eq_false_iff_ne]; exact h3
        have hys : ysW g w st k x = grd (g x) st (v / 4 % 8).toNat := by unfold ysW; rw [← hv, if_neg h3]
        simp (maxSteps := 2000000) only [vcA, ↓vcP, ↓reduceIte, reduceCtorEq, Nat.reduceAdd, Nat.reduceMul, Nat.reduceSub, Nat.reduceLT, Nat.reduceLeDiff, Nat.reduceEqDiff, Nat.reduceBEq, Nat.reduceBNe, Nat.reduceGT, Nat.reduceDiv, Nat.reduceMod, Int.reduceAdd, Int.reduceSub, Int.reduceNeg, Int.reduceLT, Int.reduceLE, Int.reduceEq, Int.reduceToNat, fA, el, pc, pc2, u8R, em, pi, hkv', pw, pw1, pw2, pw3, pw4, pw5, pc8, tv4, b3, ek, td4, tv8, wd]
        obtain ⟨y0, hy0'⟩ : ∃ y0, y0 = (v / 4 % 8).toNat := ⟨_, rfl⟩
        obtain ⟨ys, hys'⟩ : ∃ l, l = ysW g w st k x := ⟨_, rfl⟩
        rw [← hys'] at hys hq
        rw [← hy0'] at hys hy0
        have hysl : ys.length ≤ 301 := by rw [hys]; exact Nat.le_trans (grd_len _ _) (by omega)
        refine goC_loop (α := {q : List Int × Nat // q.1 ++ grd (g x) st q.2 = ys ∧ q.2 ≤ 301 + st}) (fun q => ⟨[(2, .sl 1 (w.map u8R)), (3, .ptr 8 0), (4, .ptr 16 0), (7, .ob 352 (acc.length + q.1.1.length)), (8, .v (.int .i64 ((k + 1 : Nat) : Int))), (9, .v (.int .i64 (x : Int))), (11, .v (.bool (decide (0 < q.1.1.length)))), (12, .v (.int .i64 ((q.1.2 : Nat) : Int)))], [(8, .box 59 [.sl 1 (lo.map iR), .sl 1 (tp.map iR), .sl 3 (pk.map pk3)]), (16, .box 27 [.v (.int .i64 L), .v (.int .i64 s.wide), .v (.int .i64 s.kerf), .v (.int .i64 s.across)]), (352, .row 42 2 ((acc ++ q.1.1.map (fun y => ((x : Int), y))).map plcR) false)]⟩) (fun q => 302 + st - q.1.2) ⟨([], y0), by simp only [List.nil_append]; exact hys.symm, by simp only; omega⟩ [some 64] ?_ ?_
        · simp (maxSteps := 2000000) only [enA, ↓enP, Nat.reduceAdd, Nat.reduceMul, Nat.reduceSub, Nat.reduceLT, Nat.reduceLeDiff, Nat.reduceEqDiff, Nat.reduceBEq, ↓reduceIte, reduceCtorEq, fA]
          simp; omega
        intro y2 B2 hB2
        obtain ⟨⟨l, y⟩, hl, hyb⟩ := y2
        simp only at hB2 hl hyb ⊢
        have hll2 : l.length ≤ 301 := by rw [← hl] at hysl; simp at hysl; omega
        by_cases hy : y ≤ 300
        · have py : (y ≤ 300) = True := eq_true hy
          have py2 : ((y : Int) ≤ 300) = True := eq_true (by omega)
          have ey1 : IntKind.i64.wrap ((y : Int) + 1) = ((y + 1 : Nat) : Int) := wrap_id (by omega) (by omega)
          have eys : IntKind.i64.wrap ((y : Int) + ((st : Nat) : Int)) = ((y + st : Nat) : Int) := by rw [wrap_id (by omega) (by omega)]; omega
          have hgr := grd_step (g := g x) t1 hy
          simp (maxSteps := 2000000) only [vcA, ↓vcP, ↓reduceIte, reduceCtorEq, Nat.reduceAdd, Nat.reduceMul, Nat.reduceSub, Nat.reduceLT, Nat.reduceLeDiff, Nat.reduceEqDiff, Nat.reduceBEq, Nat.reduceBNe, Nat.reduceGT, Nat.reduceDiv, Nat.reduceMod, Int.reduceAdd, Int.reduceSub, Int.reduceNeg, Int.reduceLT, Int.reduceLE, Int.reduceEq, Int.reduceToNat, fA, py, py2]
          refine onF_data (hg0 x y hc hy) ?_ ?_
          · simp (maxSteps := 2000000) only [okA, ↓okP, Nat.reduceAdd, Nat.reduceMul, Nat.reduceSub, Nat.reduceLT, Nat.reduceLeDiff, Nat.reduceEqDiff, Nat.reduceBEq, ↓reduceIte, reduceCtorEq]
          cases hgy : g x (y : Int) with
          | true =>
            rw [hgy, if_pos rfl] at hgr
            simp (maxSteps := 2000000) only [vcA, ↓vcP, ↓reduceIte, reduceCtorEq, Nat.reduceAdd, Nat.reduceMul, Nat.reduceSub, Nat.reduceLT, Nat.reduceLeDiff, Nat.reduceEqDiff, Nat.reduceBEq, Nat.reduceBNe, Nat.reduceGT, Nat.reduceDiv, Nat.reduceMod, Int.reduceAdd, Int.reduceSub, Int.reduceNeg, Int.reduceLT, Int.reduceLE, Int.reduceEq, Int.reduceToNat, fA, ew, eys]
            refine ⟨⟨by simp; omega, by simp [maxLen]; omega⟩, fun _ => ?_⟩
            refine hB2 _ ⟨(l ++ [(y : Int)], y + st), by simp only; rw [List.append_assoc, List.singleton_append, ← hgr]; exact hl, by simp only; omega⟩ [some 496] (by simp only; omega) rfl ?_
            simp (maxSteps := 2000000) only [enA, ↓enP, Nat.reduceAdd, Nat.reduceMul, Nat.reduceSub, Nat.reduceLT, Nat.reduceLeDiff, Nat.reduceEqDiff, Nat.reduceBEq, ↓reduceIte, reduceCtorEq, fA]
            simp [plcR, Nat.add_assoc]
          | false =>
            rw [hgy] at hgr
            simp only [Bool.false_eq_true, if_false] at hgr
            simp (maxSteps := 2000000) only [vcA, ↓vcP, ↓reduceIte, reduceCtorEq, Nat.reduceAdd, Nat.reduceMul, Nat.reduceSub, Nat.reduceLT, Nat.reduceLeDiff, Nat.reduceEqDiff, Nat.reduceBEq, Nat.reduceBNe, Nat.reduceGT, Nat.reduceDiv, Nat.reduceMod, Int.reduceAdd, Int.reduceSub, Int.reduceNeg, Int.reduceLT, Int.reduceLE, Int.reduceEq, Int.reduceToNat, fA, ey1]
            refine hB2 _ ⟨(l, y + 1), by simp only; rw [← hgr]; exact hl, by simp only; omega⟩ [some 352] (by simp only; omega) rfl ?_
            simp (maxSteps := 2000000) only [enA, ↓enP, Nat.reduceAdd, Nat.reduceMul, Nat.reduceSub, Nat.reduceLT, Nat.reduceLeDiff, Nat.reduceEqDiff, Nat.reduceBEq, ↓reduceIte, reduceCtorEq, fA]
        have py : (y ≤ 300) = False := eq_false hy
        have py2 : ((y : Int) ≤ 300) = False := eq_false (by omega)
        rw [grd_end (by omega), List.append_nil] at hl
        subst hl
        by_cases hne : l = []
        · have pd : decide (0 < l.length) = false := by rw [hne]; rfl
          rw [if_pos hne, hne, List.map_nil, List.nil_append] at hq
          rw [pd]
          simp (maxSteps := 2000000) only [vcA, ↓vcP, ↓reduceIte, reduceCtorEq, Nat.reduceAdd, Nat.reduceMul, Nat.reduceSub, Nat.reduceLT, Nat.reduceLeDiff, Nat.reduceEqDiff, Nat.reduceBEq, Nat.reduceBNe, Nat.reduceGT, Nat.reduceDiv, Nat.reduceMod, Int.reduceAdd, Int.reduceSub, Int.reduceNeg, Int.reduceLT, Int.reduceLE, Int.reduceEq, Int.reduceToNat, fA, py, py2, ex]
          refine hB _ ⟨(acc, x + 1, k + 1), hq, by simp only; omega, by simp only; omega⟩ [some 352] (by simp only; omega) rfl ?_
          simp (maxSteps := 2000000) only [enA, ↓enP, Nat.reduceAdd, Nat.reduceMul, Nat.reduceSub, Nat.reduceLT, Nat.reduceLeDiff, Nat.reduceEqDiff, Nat.reduceBEq, ↓reduceIte, reduceCtorEq, fA, hne, List.map_nil, List.append_nil, List.length_nil, Nat.add_zero]
        · have pd : decide (0 < l.length) = true := decide_eq_true (List.length_pos_iff.2 hne)
          rw [if_neg hne, ← List.append_assoc] at hq
          rw [pd]
          simp (maxSteps := 2000000) only [vcA, ↓vcP, ↓reduceIte, reduceCtorEq, Nat.reduceAdd, Nat.reduceMul, Nat.reduceSub, Nat.reduceLT, Nat.reduceLeDiff, Nat.reduceEqDiff, Nat.reduceBEq, Nat.reduceBNe, Nat.reduceGT, Nat.reduceDiv, Nat.reduceMod, Int.reduceAdd, Int.reduceSub, Int.reduceNeg, Int.reduceLT, Int.reduceLE, Int.reduceEq, Int.reduceToNat, fA, py, py2, ea, ea1, ex2, ex3]
          refine hB _ ⟨(acc ++ l.map (fun y => ((x : Int), y)), x + sp, k + 1), hq, by simp only; omega, by simp only; omega⟩ [some 352] (by simp only; omega) rfl ?_
          simp (maxSteps := 2000000) only [enA, ↓enP, Nat.reduceAdd, Nat.reduceMul, Nat.reduceSub, Nat.reduceLT, Nat.reduceLeDiff, Nat.reduceEqDiff, Nat.reduceBEq, ↓reduceIte, reduceCtorEq, fA]
          simp
    · obtain ⟨v, hv⟩ : ∃ v, v = bytK w k := ⟨_, rfl⟩
      have hv0 : v = 0 := by rw [hv]; unfold bytK; rw [if_neg hw0]
      have hb : 0 ≤ v ∧ v < 256 := by omega
      have hv0' : (0 : Int) = v := hv0.symm
      have pw : (0 < w.length) = False := eq_false hw0
      have pw1 : ((w.length : Int) > 0) = False := eq_false (by omega)
      have pw2 : ((w.length : Int) ≤ 0) = True := eq_true (by omega)
      have b3 : ((Int.tmod 0 4) == 3) = false := rfl
      have hys : ysW g w st k x = grd (g x) st (v / 4 % 8).toNat := by unfold ysW; rw [← hv, hv0, if_neg (by decide)]
      have hy0 : (v / 4 % 8).toNat ≤ 7 := by omega
      have ey : (0 : Int) = (((v / 4 % 8).toNat : Nat) : Int) := by omega
      simp (maxSteps := 2000000) only [vcA, ↓vcP, ↓reduceIte, reduceCtorEq, Nat.reduceAdd, Nat.reduceMul, Nat.reduceSub, Nat.reduceLT, Nat.reduceLeDiff, Nat.reduceEqDiff, Nat.reduceBEq, Nat.reduceBNe, Nat.reduceGT, Nat.reduceDiv, Nat.reduceMod, Int.reduceAdd, Int.reduceSub, Int.reduceNeg, Int.reduceLT, Int.reduceLE, Int.reduceEq, Int.reduceToNat, fA, el, pc, pc2, pw1, pw2, b3, ek]
      obtain ⟨y0, hy0'⟩ : ∃ y0, y0 = (v / 4 % 8).toNat := ⟨_, rfl⟩
      obtain ⟨ys, hys'⟩ : ∃ l, l = ysW g w st k x := ⟨_, rfl⟩
      rw [← hys'] at hys hq
      rw [← hy0'] at hys hy0
      have hysl : ys.length ≤ 301 := by rw [hys]; exact Nat.le_trans (grd_len _ _) (by omega)
      refine goC_loop (α := {q : List Int × Nat // q.1 ++ grd (g x) st q.2 = ys ∧ q.2 ≤ 301 + st}) (fun q => ⟨[(2, .sl 1 (w.map u8R)), (3, .ptr 8 0), (4, .ptr 16 0), (7, .ob 280 (acc.length + q.1.1.length)), (8, .v (.int .i64 ((k + 1 : Nat) : Int))), (9, .v (.int .i64 (x : Int))), (11, .v (.bool (decide (0 < q.1.1.length)))), (12, .v (.int .i64 ((q.1.2 : Nat) : Int)))], [(8, .box 59 [.sl 1 (lo.map iR), .sl 1 (tp.map iR), .sl 3 (pk.map pk3)]), (16, .box 27 [.v (.int .i64 L), .v (.int .i64 s.wide), .v (.int .i64 s.kerf), .v (.int .i64 s.across)]), (280, .row 42 2 ((acc ++ q.1.1.map (fun y => ((x : Int), y))).map plcR) false)]⟩) (fun q => 302 + st - q.1.2) ⟨([], y0), by simp only [List.nil_append]; exact hys.symm, by simp only; omega⟩ [some 64] ?_ ?_
      · simp (maxSteps := 2000000) only [enA, ↓enP, Nat.reduceAdd, Nat.reduceMul, Nat.reduceSub, Nat.reduceLT, Nat.reduceLeDiff, Nat.reduceEqDiff, Nat.reduceBEq, ↓reduceIte, reduceCtorEq, fA]
        simp [show y0 = 0 by omega]; rfl
      intro y2 B2 hB2
      obtain ⟨⟨l, y⟩, hl, hyb⟩ := y2
      simp only at hB2 hl hyb ⊢
      have hll2 : l.length ≤ 301 := by rw [← hl] at hysl; simp at hysl; omega
      by_cases hy : y ≤ 300
      · have py : (y ≤ 300) = True := eq_true hy
        have py2 : ((y : Int) ≤ 300) = True := eq_true (by omega)
        have ey1 : IntKind.i64.wrap ((y : Int) + 1) = ((y + 1 : Nat) : Int) := wrap_id (by omega) (by omega)
        have eys : IntKind.i64.wrap ((y : Int) + ((st : Nat) : Int)) = ((y + st : Nat) : Int) := by rw [wrap_id (by omega) (by omega)]; omega
        have hgr := grd_step (g := g x) t1 hy
        simp (maxSteps := 2000000) only [vcA, ↓vcP, ↓reduceIte, reduceCtorEq, Nat.reduceAdd, Nat.reduceMul, Nat.reduceSub, Nat.reduceLT, Nat.reduceLeDiff, Nat.reduceEqDiff, Nat.reduceBEq, Nat.reduceBNe, Nat.reduceGT, Nat.reduceDiv, Nat.reduceMod, Int.reduceAdd, Int.reduceSub, Int.reduceNeg, Int.reduceLT, Int.reduceLE, Int.reduceEq, Int.reduceToNat, fA, py, py2]
        refine onF_data (hg0 x y hc hy) ?_ ?_
        · simp (maxSteps := 2000000) only [okA, ↓okP, Nat.reduceAdd, Nat.reduceMul, Nat.reduceSub, Nat.reduceLT, Nat.reduceLeDiff, Nat.reduceEqDiff, Nat.reduceBEq, ↓reduceIte, reduceCtorEq]
        cases hgy : g x (y : Int) with
        | true =>
          rw [hgy, if_pos rfl] at hgr
          simp (maxSteps := 2000000) only [vcA, ↓vcP, ↓reduceIte, reduceCtorEq, Nat.reduceAdd, Nat.reduceMul, Nat.reduceSub, Nat.reduceLT, Nat.reduceLeDiff, Nat.reduceEqDiff, Nat.reduceBEq, Nat.reduceBNe, Nat.reduceGT, Nat.reduceDiv, Nat.reduceMod, Int.reduceAdd, Int.reduceSub, Int.reduceNeg, Int.reduceLT, Int.reduceLE, Int.reduceEq, Int.reduceToNat, fA, ew, eys]
          refine ⟨⟨by simp; omega, by simp [maxLen]; omega⟩, fun _ => ?_⟩
          refine hB2 _ ⟨(l ++ [(y : Int)], y + st), by simp only; rw [List.append_assoc, List.singleton_append, ← hgr]; exact hl, by simp only; omega⟩ [some 424] (by simp only; omega) rfl ?_
          simp (maxSteps := 2000000) only [enA, ↓enP, Nat.reduceAdd, Nat.reduceMul, Nat.reduceSub, Nat.reduceLT, Nat.reduceLeDiff, Nat.reduceEqDiff, Nat.reduceBEq, ↓reduceIte, reduceCtorEq, fA]
          simp [plcR, Nat.add_assoc]
        | false =>
          rw [hgy] at hgr
          simp only [Bool.false_eq_true, if_false] at hgr
          simp (maxSteps := 2000000) only [vcA, ↓vcP, ↓reduceIte, reduceCtorEq, Nat.reduceAdd, Nat.reduceMul, Nat.reduceSub, Nat.reduceLT, Nat.reduceLeDiff, Nat.reduceEqDiff, Nat.reduceBEq, Nat.reduceBNe, Nat.reduceGT, Nat.reduceDiv, Nat.reduceMod, Int.reduceAdd, Int.reduceSub, Int.reduceNeg, Int.reduceLT, Int.reduceLE, Int.reduceEq, Int.reduceToNat, fA, ey1]
          refine hB2 _ ⟨(l, y + 1), by simp only; rw [← hgr]; exact hl, by simp only; omega⟩ [some 280] (by simp only; omega) rfl ?_
          simp (maxSteps := 2000000) only [enA, ↓enP, Nat.reduceAdd, Nat.reduceMul, Nat.reduceSub, Nat.reduceLT, Nat.reduceLeDiff, Nat.reduceEqDiff, Nat.reduceBEq, ↓reduceIte, reduceCtorEq, fA]
      have py : (y ≤ 300) = False := eq_false hy
      have py2 : ((y : Int) ≤ 300) = False := eq_false (by omega)
      rw [grd_end (by omega), List.append_nil] at hl
      subst hl
      by_cases hne : l = []
      · have pd : decide (0 < l.length) = false := by rw [hne]; rfl
        rw [if_pos hne, hne, List.map_nil, List.nil_append] at hq
        rw [pd]
        simp (maxSteps := 2000000) only [vcA, ↓vcP, ↓reduceIte, reduceCtorEq, Nat.reduceAdd, Nat.reduceMul, Nat.reduceSub, Nat.reduceLT, Nat.reduceLeDiff, Nat.reduceEqDiff, Nat.reduceBEq, Nat.reduceBNe, Nat.reduceGT, Nat.reduceDiv, Nat.reduceMod, Int.reduceAdd, Int.reduceSub, Int.reduceNeg, Int.reduceLT, Int.reduceLE, Int.reduceEq, Int.reduceToNat, fA, py, py2, ex]
        refine hB _ ⟨(acc, x + 1, k + 1), hq, by simp only; omega, by simp only; omega⟩ [some 280] (by simp only; omega) rfl ?_
        simp (maxSteps := 2000000) only [enA, ↓enP, Nat.reduceAdd, Nat.reduceMul, Nat.reduceSub, Nat.reduceLT, Nat.reduceLeDiff, Nat.reduceEqDiff, Nat.reduceBEq, ↓reduceIte, reduceCtorEq, fA, hne, List.map_nil, List.append_nil, List.length_nil, Nat.add_zero]
      · have pd : decide (0 < l.length) = true := decide_eq_true (List.length_pos_iff.2 hne)
        rw [if_neg hne, ← List.append_assoc] at hq
        rw [pd]
        simp (maxSteps := 2000000) only [vcA, ↓vcP, ↓reduceIte, reduceCtorEq, Nat.reduceAdd, Nat.reduceMul, Nat.reduceSub, Nat.reduceLT, Nat.reduceLeDiff, Nat.reduceEqDiff, Nat.reduceBEq, Nat.reduceBNe, Nat.reduceGT, Nat.reduceDiv, Nat.reduceMod, Int.reduceAdd, Int.reduceSub, Int.reduceNeg, Int.reduceLT, Int.reduceLE, Int.reduceEq, Int.reduceToNat, fA, py, py2, ea, ea1, ex2, ex3]
        refine hB _ ⟨(acc ++ l.map (fun y => ((x : Int), y)), x + sp, k + 1), hq, by simp only; omega, by simp only; omega⟩ [some 280] (by simp only; omega) rfl ?_
        simp (maxSteps := 2000000) only [enA, ↓enP, Nat.reduceAdd, Nat.reduceMul, Nat.reduceSub, Nat.reduceLT, Nat.reduceLeDiff, Nat.reduceEqDiff, Nat.reduceBEq, ↓reduceIte, reduceCtorEq, fA]
        simp
  · have pc : (x + L ≤ lo.length) = False := eq_false hc
    have pc2 : (((x + L : Nat) : Int) ≤ (lo.length : Int)) = False := eq_false (by omega)
    rw [sawG_end (by omega), List.append_nil] at hq
    simp (maxSteps := 2000000) only [vcA, ↓vcP, ↓reduceIte, reduceCtorEq, Nat.reduceAdd, Nat.reduceMul, Nat.reduceSub, Nat.reduceLT, Nat.reduceLeDiff, Nat.reduceEqDiff, Nat.reduceBEq, Nat.reduceBNe, Nat.reduceGT, Nat.reduceDiv, Nat.reduceMod, Int.reduceAdd, Int.reduceSub, Int.reduceNeg, Int.reduceLT, Int.reduceLE, Int.reduceEq, Int.reduceToNat, fA, el, pc, pc2]
    refine hR _ (fin_of1 [some 64] ?_)
    rw [← hq]
    simp (maxSteps := 2000000) only [enA, ↓enP, Nat.reduceAdd, Nat.reduceMul, Nat.reduceSub, Nat.reduceLT, Nat.reduceLeDiff, Nat.reduceEqDiff, Nat.reduceBEq, ↓reduceIte, reduceCtorEq, fA]
end Go.Proofs.Ytafpicjnccffgaa.Ab.T01
