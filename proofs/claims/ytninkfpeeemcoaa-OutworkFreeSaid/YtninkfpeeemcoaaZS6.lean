/- The plain laws about outworkers: what follows for a book that is true. The shop and the program's functions, frozen: what they return is data. -/
import Derived.Test.YtninkfpeeemcoaaZS1
import Derived.Test.YtninkfpeeemcoaaZO11
import Derived.Test.YtninkfpeeemcoaaZS5
import Derived.Test.YtninkfpeeemcoaaZLA
namespace Go.Proofs.Ytninkfpeeemcoaa.Ab.T07
open Go Go.RowKit
set_option linter.unusedVariables false
set_option linter.unusedSimpArgs false
set_option maxRecDepth 100000
theorem check_back {h : Hs} {b : List En} (hb : Ok h b) : checkErr h b = 0 := by
  obtain ⟨⟨h1, h2, h3, h4, h5⟩, hl, he⟩ := hb
  have o0 : okB h b 0 = true := by simp [okB, betw]; omega
  have o1 : okB h b 1 = true := by simp [okB, betw]; omega
  have o2 : okB h b 2 = true := by
    simp only [okB, betw, Bool.and_eq_true, Bool.not_eq_true', List.any_eq_false, List.all_eq_true, decide_eq_true_eq]
    refine ⟨fun s hs => ?_, h5⟩
    have := h4 s hs
    simp [isTakes, betw]
    omega
  have o3 : okB h b 3 = true := by simp [okB]; omega
  have o4 : okB h b 4 = true := by
    simp only [okB, Bool.not_eq_true', List.any_eq_false]
    intro x hx
    obtain ⟨a1, a2, a3⟩ := he x hx
    unfold isEntry isWorker isStuff
    rcases a2 with ⟨a2, a4⟩ | ⟨a2, a4⟩
    · rw [if_pos a2]
      simp [betw]
      omega
    · rw [if_neg (by omega), if_pos a2, a4]
      simp [betw]
      omega
  have o5 : okB h b 5 = true := by
    simp only [okB, Bool.not_eq_true', List.any_eq_false]
    intro x hx
    obtain ⟨a1, a2, a3⟩ := he x hx
    simp [fits, betw]
    omega
  unfold checkErr
  simp only [checkFrom, o0, o1, o2, o3, o4, o5, Nat.sub_self, Nat.reduceSub, if_true]
theorem stN_w (x : Sh) (l : List Int) : ∀ n, ∀ e ∈ (stN x l n).1, e.w < 3
  | 0, e, he => by simp [stN] at he
  | n + 1, e, he => by
    have i := stN_w x l n
    have hw : wOf (nth x.ls n) < 3 := by unfold wOf; omega
    rw [stN] at he
    unfold stepS at he
    split at he
    · rcases List.mem_append.1 he with h1 | h1
      · exact i e h1
      · rw [List.mem_singleton.1 h1]; simp only; omega
    · split at he
      · rcases List.mem_append.1 he with h1 | h1
        · exact i e h1
        · rw [List.mem_singleton.1 h1]; simp only; omega
      · rcases List.mem_append.1 he with h1 | h1
        · exact i e h1
        · rw [List.mem_singleton.1 h1]; simp only; omega
/-- Of a worker who is not in the book. -/
theorem acc_far {h : Hs} {b : List En} {w s : Int} {fr : Nat → Bool} (hf : ∀ e ∈ b, e.w ≠ w) : acc h b w s fr = ⟨0, 0, 0, 0, 0, 0, nth h.lo s.toNat⟩ := by
  unfold acc
  have : ∀ n, n ≤ b.length → accN h b w s fr n = ⟨0, 0, 0, 0, 0, 0, nth h.lo s.toNat⟩ := fun n => by
    induction n with
    | zero => intro _; rfl
    | succ n i =>
      intro hn
      rw [accN, i (by omega)]
      unfold accS
      rw [if_pos (hf _ (nth_mem (by omega)))]
  exact this _ (Nat.le_refl _)
/-- A book that is true, and only of the first three workers. -/
structure Tru (h : Hs) (b : List En) (r : Rl) : Prop where
  t : TrF h b r
  two : h.tk.length = 2
  far : ∀ e ∈ b, e.w < 3
theorem shop_tru {x : Sh} (hx : x.Ok) {l : List Int} (hl : ∀ n ∈ l, By n) : Tru (houseX x) (bookX x l) (realX x l) := ⟨shop_true hx hl, rfl, stN_w x l _⟩
section
variable {h : Hs} {b : List En} {r : Rl}
theorem Tru.lo (t : Tru h b r) {s : Nat} (hs : s < 2) : 0 ≤ nth h.lo s ∧ nth h.lo s ≤ 1000 := t.t.ok.hs.los _ (nth_mem (by have := t.t.ok.hs.lo; have := t.two; omega))
theorem Tru.zero (t : Tru h b r) {w s : Nat} (hw : 3 ≤ w) : acc h b w s nof = ⟨0, 0, 0, 0, 0, 0, nth h.lo s⟩ := by
  have := acc_far (h := h) (b := b) (w := w) (s := s) (fr := nof) fun e he => by have := t.far e he; omega
  simpa using this
theorem Tru.high (t : Tru h b r) {w s : Nat} (hw : w < 3) (hs : s < 2) : leftI r w s + r (18 + 2 * w + s) ≤ high (acc h b w s nof) := by
  have a := t.t.ac w s hw hs
  obtain ⟨a1, a2, a3⟩ := a
  have e : acc h b w s nof = acc h b w s nof0 := rfl
  rw [e]
  unfold T07.high leftI
  omega
theorem Tru.high0 (t : Tru h b r) (w : Nat) {s : Nat} (hs : s < 2) : 0 ≤ T07.high (acc h b w s nof) := by
  by_cases hw : w < 3
  · have a := t.high hw hs
    have l := t.t.left w s hw hs
    have n := t.t.nn (18 + 2 * w + s)
    omega
  · rw [t.zero (by omega)]
    simp [T07.high]
theorem Tru.holds (t : Tru h b r) : trueB h b nof = true := trueB_iff.2 fun w hw => okW_iff.2 fun s hs => t.high0 w (by have := t.two; omega)
theorem Tru.open (t : Tru h b r) : openErr h b = 0 := by
  unfold openErr
  rw [check_back t.t.ok, if_neg (by simp), t.holds, if_pos rfl]
theorem Tru.hasErr (t : Tru h b r) {w : Nat} (hw : w < 6) : hasErr h b w = 0 := by
  unfold T07.hasErr
  rw [t.open, if_neg (by simp), if_pos (by simp [isWorker, betw]; omega)]
theorem Tru.hasR (t : Tru h b r) {w : Nat} (hw : w < 6) : hasR h b w = hasL h b w 2 := by
  unfold T07.hasR
  rw [t.hasErr hw, if_pos rfl, t.two]
theorem loss_mono {lo n m : Int} (h1 : 0 ≤ lo ∧ lo ≤ 1000) (hn : n ≤ m) : n - n * lo / 1000 ≤ m - m * lo / 1000 ∧ n * lo / 1000 ≤ m * lo / 1000 := by
  have e : m * lo = n * lo + (m - n) * lo := by rw [← Int.add_mul]; congr 1; omega
  have a := Int.mul_nonneg (show 0 ≤ m - n by omega) h1.1
  have b := Int.mul_le_mul_of_nonneg_left h1.2 (show 0 ≤ m - n by omega)
  rw [e]
  omega
theorem accN_lo (h : Hs) (b : List En) (w s : Int) (fr : Nat → Bool) : ∀ n, (accN h b w s fr n).lo = nth h.lo s.toNat
  | 0 => rfl
  | n + 1 => by
    have i := accN_lo h b w s fr n
    rw [accN]
    unfold accS
    split
    · exact i
    · split
      · exact i
      · split
        · exact i
        · split <;> exact i
theorem acc_lo0 (h : Hs) (b : List En) (w : Int) (s : Nat) (fr : Nat → Bool) : (acc h b w s fr).lo = nth h.lo s := by
  have := accN_lo h b w s fr b.length
  simpa [acc] using this
/-- What a worker truly has lies in what the book says. -/
theorem Tru.has (t : Tru h b r) {w s : Nat} (hw : w < 3) (hs : s < 2) : (T07.has (acc h b w s nof)).1 ≤ leftI r w s ∧ leftI r w s ≤ (T07.has (acc h b w s nof)).2 := by
  have hh := t.high hw hs
  have l := t.t.left w s hw hs
  have n := t.t.nn (18 + 2 * w + s)
  obtain ⟨a1, a2, a3⟩ := t.t.ac w s hw hs
  have lo := t.lo hs
  have m := (loss_mono lo a1.1).1
  have lt := t.t.lost w s hw hs
  have e : acc h b w s nof = acc h b w s nof0 := rfl
  rw [e] at hh ⊢
  unfold T07.has loss
  simp only
  rw [acc_lo0]
  refine ⟨?_, by omega⟩
  have : (acc h b w s nof0).o1 - (acc h b w s nof0).o1 * nth h.lo s / 1000 - (acc h b w s nof0).b2 - (acc h b w s nof0).f2 ≤ leftI r w s := by
    unfold leftI
    omega
  omega
theorem has_lo (a : Ac) : 0 ≤ (T07.has a).1 := by unfold T07.has; simp only; omega
theorem Tru.keptErr (t : Tru h b r) {lim : Int} (hl : By lim) : keptErr h b lim = 0 := by
  unfold By at hl
  unfold T07.keptErr
  rw [t.open, if_neg (by simp), if_pos (by simp [betw]; omega)]
def keptT (r : Rl) (lim : Int) (w : Nat) : Bool := decide (leftI r w 0 > lim) || decide (leftI r w 1 > lim)
theorem keptL_mem {f : Nat → Bool} {n w : Nat} : (keptL f n).contains (w : Int) = (decide (w < n) && f w) := by
  rw [Bool.eq_iff_iff, List.contains_iff_mem, Bool.and_eq_true, decide_eq_true_eq]
  unfold keptL
  simp only [List.mem_map, List.mem_filter, List.mem_range]
  exact ⟨fun ⟨a, h1, h2⟩ => by have : a = w := by omega
                               subst this; exact h1, fun h1 => ⟨w, h1, rfl⟩⟩
theorem Tru.kept1 (t : Tru h b r) {lim : Int} (hl : By lim) {w : Nat} (hw : w < 3) (hc : (kept1 h b lim).contains (w : Int) = true) : keptT r lim w = true := by
  unfold T07.kept1 at hc
  rw [t.keptErr hl, if_pos rfl, keptL_mem, Bool.and_eq_true, t.two] at hc
  obtain ⟨s, hs, h1⟩ := List.any_eq_true.1 hc.2
  have h2 := (t.has hw (List.mem_range.1 hs)).1
  have h1 := of_decide_eq_true h1
  unfold keptT
  rw [Bool.or_eq_true, decide_eq_true_eq, decide_eq_true_eq]
  obtain rfl | rfl : s = 0 ∨ s = 1 := by have := List.mem_range.1 hs; omega
  · left; omega
  · right; omega
theorem Tru.kept2 (t : Tru h b r) {lim : Int} (hl : By lim) {w : Nat} (hw : w < 3) (hc : keptT r lim w = true) : (kept2 h b lim).contains (w : Int) = true := by
  unfold T07.kept2
  rw [t.keptErr hl, if_pos rfl, keptL_mem, Bool.and_eq_true, t.two]
  refine ⟨decide_eq_true (by omega), ?_⟩
  unfold keptT at hc
  rw [Bool.or_eq_true, decide_eq_true_eq, decide_eq_true_eq] at hc
  unfold mayW
  rw [List.any_eq_true]
  rcases hc with hc | hc
  · exact ⟨0, by simp, decide_eq_true (by have := (t.has hw (s := 0) (by omega)).2; omega)⟩
  · exact ⟨1, by simp, decide_eq_true (by have := (t.has hw (s := 1) (by omega)).2; omega)⟩
theorem Tru.liesErr (t : Tru h b r) {s : Nat} (hs : s < 2) : liesErr h b s = 0 := by
  unfold T07.liesErr
  rw [t.open, if_neg (by simp), if_pos (by simp [isStuff, betw, t.two]; omega)]
/-- Sums over the three workers. -/
def sum3 (f : Nat → Int) : Nat → Int
  | 0 => 0
  | n + 1 => sum3 f n + f n
theorem Tru.home (t : Tru h b r) {s : Nat} (hs : s < 2) : ∀ n, n ≤ 3 → (homeN h b s n).1 ≤ sum3 (fun w => leftI r w s) n ∧ sum3 (fun w => leftI r w s) n ≤ (homeN h b s n).2
  | 0, _ => by simp [homeN, sum3]
  | n + 1, hn => by
    have i := t.home hs n (by omega)
    have a := t.has (w := n) (by omega) hs
    simp only [homeN, sum3]
    omega
theorem Tru.infans (t : Tru h b r) {s : Nat} (hs : s < 2) : ∀ n, n ≤ 3 → (infansN h b s n).1 ≤ sum3 (fun w => r (12 + 2 * w + s)) n ∧ sum3 (fun w => r (12 + 2 * w + s)) n ≤ (infansN h b s n).2
  | 0, _ => by simp [infansN, sum3]
  | n + 1, hn => by
    have i := t.infans hs n (by omega)
    obtain ⟨a1, a2, a3⟩ := t.t.ac n s (by omega) hs
    have l := t.t.left n s (by omega) hs
    have m := t.t.nn (18 + 2 * n + s)
    have e : acc h b n s nof = acc h b n s nof0 := rfl
    unfold leftI at l
    simp only [infansN, sum3]
    rw [e]
    omega
theorem Tru.gone (t : Tru h b r) {s : Nat} (hs : s < 2) : ∀ n, n ≤ 3 → (lostN h b s n).1 ≤ sum3 (fun w => r (18 + 2 * w + s)) n ∧ sum3 (fun w => r (18 + 2 * w + s)) n ≤ (lostN h b s n).2
  | 0, _ => by simp [lostN, sum3]
  | n + 1, hn => by
    have i := t.gone hs n (by omega)
    obtain ⟨a1, a2, a3⟩ := t.t.ac n s (by omega) hs
    have hh := t.high (w := n) (by omega) hs
    have l := t.t.left n s (by omega) hs
    have m := t.t.nn (18 + 2 * n + s)
    have lt := t.t.lost n s (by omega) hs
    have mm := (loss_mono (t.lo hs) a1.2).2
    have e : acc h b n s nof = acc h b n s nof0 := rfl
    simp only [lostN, sum3]
    unfold loss
    rw [acc_lo0]
    rw [e] at hh ⊢
    omega
theorem Tru.six (t : Tru h b r) {s : Nat} (hs : s < 2) : homeN h b s 6 = homeN h b s 3 ∧ infansN h b s 6 = infansN h b s 3 ∧ lostN h b s 6 = lostN h b s 3 := by
  have z3 := t.zero (w := 3) (s := s) (by omega)
  have z4 := t.zero (w := 4) (s := s) (by omega)
  have z5 := t.zero (w := 5) (s := s) (by omega)
  have e3 : ((3 : Nat) : Int) = 3 := rfl
  refine ⟨?_, ?_, ?_⟩
  · rw [show (6 : Nat) = 5 + 1 from rfl, homeN, homeN, homeN, z3, z4, z5]
    simp [T07.has, loss, T07.high]
  · rw [show (6 : Nat) = 5 + 1 from rfl, infansN, infansN, infansN, z3, z4, z5]
    simp
  · rw [show (6 : Nat) = 5 + 1 from rfl, lostN, lostN, lostN, z3, z4, z5]
    simp [loss, T07.high]
theorem Tru.lies (t : Tru h b r) {s : Nat} (hs : s < 2) : inS (sum3 (fun w => leftI r w s) 3) (liesR h b s).1 = true ∧ inS (sum3 (fun w => r (12 + 2 * w + s)) 3) (liesR h b s).2.1 = true ∧ inS (sum3 (fun w => r (18 + 2 * w + s)) 3) (liesR h b s).2.2 = true := by
  unfold liesR
  rw [t.liesErr hs, if_pos rfl, (t.six hs).1, (t.six hs).2.1, (t.six hs).2.2]
  have a1 := t.home hs 3 (by omega)
  have a2 := t.infans hs 3 (by omega)
  have a3 := t.gone hs 3 (by omega)
  unfold inS
  simp only [Bool.and_eq_true, decide_eq_true_eq, ge_iff_le]
  exact ⟨a1, a2, a3⟩
theorem sum_all (r : Rl) (s : Nat) : ∀ n, sum3 (fun w => leftI r w s) n + sum3 (fun w => r (12 + 2 * w + s)) n + sum3 (fun w => r (18 + 2 * w + s)) n = sum3 (fun w => r (2 * w + s) - r (6 + 2 * w + s)) n
  | 0 => rfl
  | n + 1 => by
    have i := sum_all r s n
    simp only [sum3]
    have : leftI r n s = r (2 * n + s) - r (6 + 2 * n + s) - r (12 + 2 * n + s) - r (18 + 2 * n + s) := rfl
    omega
theorem Tru.mv (t : Tru h b r) {s : Nat} (hs : s < 2) : ∀ n, (mvN h b s n).1 = 0 ∧ 0 ≤ (mvN h b s n).2
  | 0 => by simp [mvN]
  | n + 1 => by
    have i := t.mv hs n
    have a := t.high0 n hs
    simp only [mvN]
    omega
theorem Tru.movedErr (t : Tru h b r) : movedErr h b = 0 := by
  unfold T07.movedErr
  rw [check_back t.t.ok, if_neg (by simp), if_neg]
  unfold movedBad
  rw [t.two]
  simp only [Bool.not_eq_true, List.any_eq_false, decide_eq_true_eq]
  intro s hs
  have := t.mv (List.mem_range.1 hs) 6
  omega
theorem Tru.movedR (t : Tru h b r) : movedR h b = [0, 0] := by
  unfold T07.movedR
  rw [t.movedErr, if_pos rfl, t.two]
  have a := (t.mv (s := 0) (by omega) 6).1
  have c := (t.mv (s := 1) (by omega) 6).1
  simp only [movedL, List.range, List.range.loop, List.map_cons, List.map_nil]
  rw [show mvN h b ((0 : Nat) : Int) 6 = ((mvN h b ((0 : Nat) : Int) 6).1, (mvN h b ((0 : Nat) : Int) 6).2) from rfl, show mvN h b ((1 : Nat) : Int) 6 = ((mvN h b ((1 : Nat) : Int) 6).1, (mvN h b ((1 : Nat) : Int) 6).2) from rfl, a, c]
end
end Go.Proofs.Ytninkfpeeemcoaa.Ab.T07
namespace Go.Proofs.Ytninkfpeeemcoaa.Ab.T07
open Go Go.RowKit
set_option linter.unusedVariables false
set_option linter.unusedSimpArgs false
set_option maxRecDepth 100000
theorem shopF_spec (x : Sh) (l : List Int) (hx : x.Ok) (hl : ∀ n ∈ l, By n) : SpecF Try.prog 8 [.agg (shA x), .sl 1 (l.map u8R)]
    (.tup [.agg [.v (.int .i64 (houseX x).sc), .sl 2 ((houseX x).tk.map spR), .sl 1 ((houseX x).lo.map iR)], .sl 4 ((bookX x l).map enR), .agg (rlA (realX x l))]) [] := (shop_spec x l hx hl).frz
theorem shop_bd {x : Sh} (hx : x.Ok) {l : List Int} (hl : ∀ n ∈ l, By n) : Rl.Bd (realX x l) := by
  have t := stN_tr hx l (numX x) (Nat.le_refl _)
  exact lostS_bd (houseX_ok hx) rfl hl t (by unfold numX; omega) (Nat.le_refl _)
def houseA (h : Hs) : AV := .agg [.v (.int .i64 h.sc), .sl 2 (h.tk.map spR), .sl 1 (h.lo.map iR)]
theorem keptF_spec (h : Hs) (b : List En) (lim : Int) (h1 : h.tk.length < 1000000) (h2 : h.lo.length < 1000000) (h3 : b.length < 1000000) : SpecF Try.prog 14 [.agg [.v (.int .i64 h.sc), .sl 2 (h.tk.map spR), .sl 1 (h.lo.map iR)], .sl 4 (b.map enR), .v (.int .i64 lim)] (.tup [.sl 1 ((kept1 h b lim).map iR), .sl 1 ((kept2 h b lim).map iR), .v (.int .i64 (keptErr h b lim))]) [] := (keptO_spec h b lim h1 h2 h3).frz
theorem movedF_spec (h : Hs) (b : List En) (h1 : h.tk.length < 1000000) (h2 : h.lo.length < 1000000) (h3 : b.length < 1000000) : SpecF Try.prog 17 [.agg [.v (.int .i64 h.sc), .sl 2 (h.tk.map spR), .sl 1 (h.lo.map iR)], .sl 4 (b.map enR)] (.tup [.sl 1 ((movedR h b).map iR), .v (.int .i64 (movedErr h b))]) [] := (moved1_spec h b h1 h2 h3).frz
theorem giveF_spec (h : Hs) (fans : Int) (h1 : h.tk.length < 1000000) (h2 : h.lo.length < 1000000) : SpecF Try.prog 19 [.agg [.v (.int .i64 h.sc), .sl 2 (h.tk.map spR), .sl 1 (h.lo.map iR)], .v (.int .i64 fans)] (.tup [.sl 1 ((giveR h fans).map iR), .v (.int .i64 (giveErr h fans))]) [] := (giveO_spec h fans h1 h2).frz
theorem settleF_spec (h : Hs) (b : List En) (w : Int) (h1 : h.tk.length < 1000000) (h2 : h.lo.length < 1000000) (h3 : b.length < 1000000) : SpecF Try.prog 24 [.agg [.v (.int .i64 h.sc), .sl 2 (h.tk.map spR), .sl 1 (h.lo.map iR)], .sl 4 (b.map enR), .v (.int .i64 w)] (.tup [.sl 1 ((settleR h b w).map iR), .v (.int .i64 (settleErr h b w))]) [] := (settle1_spec h b w h1 h2 h3).frz
theorem blameF_spec (h : Hs) (b : List En) (h1 : h.tk.length < 1000000) (h2 : h.lo.length < 1000000) (h3 : b.length < 1000000) : SpecF Try.prog 22 [.agg [.v (.int .i64 h.sc), .sl 2 (h.tk.map spR), .sl 1 (h.lo.map iR)], .sl 4 (b.map enR)] (.tup [.sl 2 ((blameR h b).map spR), .v (.int .i64 (checkErr h b))]) [] := (blameO_spec h b h1 h2 h3).frz
end Go.Proofs.Ytninkfpeeemcoaa.Ab.T07
