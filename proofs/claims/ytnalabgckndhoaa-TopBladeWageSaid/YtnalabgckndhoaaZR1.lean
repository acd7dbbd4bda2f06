/- The document's examples, as the law calls them. The document's examples: all of them are as the document says. -/
import Derived.Test.YtnalabgckndhoaaZT12
import Derived.Laws.StructEq
namespace Go.Proofs.Ytnalabgckndhoaa.Ab.T01
open Go Go.RowKit
set_option linter.unusedVariables false
set_option linter.unusedSimpArgs false
set_option maxRecDepth 100000
theorem kinds_two {xs : List Value} {k k' : IntKind} {z z' : Int} (h : kindsOk xs [.int k z, .int k' z'] = true) : ∃ a b, xs = [.int k a, .int k' b] := by
  match xs, h with
  | [x, y], h =>
    simp only [kindsOk, Bool.and_eq_true, Bool.and_true] at h
    cases x <;> simp [sameKind] at h
    cases y <;> simp [sameKind] at h
    obtain ⟨rfl, rfl⟩ := h
    exact ⟨_, _, rfl⟩
  | [], h => simp [kindsOk] at h
  | [_], h => simp [kindsOk] at h
  | _ :: _ :: _ :: _, h => simp [kindsOk] at h
theorem eq_span : EqT Try.prog 25 [.int .i64 0, .int .i64 0] := by
  intro w xs ys ox oy hx hy
  obtain ⟨a, b, rfl⟩ := kinds_two hx
  obtain ⟨c, d, rfl⟩ := kinds_two hy
  have hm : Try.prog.eqGuardType Try.prog.depth 25 = false := by kernel_rfl
  have hp : Try.prog.stoodInHeld 25 = false := by kernel_rfl
  have ht : Try.prog.underlying 25 = some (.struct (Try.prog.fieldsOf 25)) := by kernel_rfl
  have key : (Op.equalIn 10000 25 (.agg [.int .i64 a, .int .i64 b].toArray) (.agg [.int .i64 c, .int .i64 d].toArray)).run Try.prog w = .ok (a == c && b == d) w := by
    rw [run_equalIn_agg (P := Try.prog) w 9999 25 _ _ ht hp]
    simp [Program.fieldsOf, Try.underlying25, Op.eqFields, go_sem]
    by_cases h1 : a = c <;> by_cases h2 : b = d <;> simp [h1, h2]
  refine ⟨?_, ?_⟩
  · rw [Sem.run_bind, run_eqGuard_agg w _ _ _ _ _ _ hm, Result.andThen_ok, run_eql_struct, key]
    simp [Result.andThen, cellEq]
  · rw [Sem.run_bind, run_eqGuard_agg w _ _ _ _ _ _ hm, Result.andThen_ok, run_neq_struct, key]
    simp [Result.andThen, cellEq]
theorem kinds_int : ∀ {xs : List Value} {n : Nat}, kindsOk xs (List.replicate n (.int .i64 0)) = true → ∃ l : List Int, l.length = n ∧ xs = l.map (.int .i64)
  | [], 0, _ => ⟨[], rfl, rfl⟩
  | x :: xs, n + 1, h => by
    rw [List.replicate_succ] at h
    simp only [kindsOk, Bool.and_eq_true] at h
    obtain ⟨l, h1, h2⟩ := kinds_int h.2
    cases x <;> simp [sameKind] at h
    rename_i k z
    obtain ⟨rfl, _⟩ := h
    exact ⟨z :: l, by simp [h1], by simp [h2]⟩
  | [], n + 1, h => by simp [List.replicate_succ, kindsOk] at h
  | x :: xs, 0, h => by simp [kindsOk] at h
theorem run_span (w : World) (a b c d : Int) : (Op.equalIn 9999 25 (.agg #[.int .i64 a, .int .i64 b]) (.agg #[.int .i64 c, .int .i64 d])).run Try.prog w = .ok (a == c && b == d) w := by
  have hp : Try.prog.stoodInHeld 25 = false := by kernel_rfl
  have ht : Try.prog.underlying 25 = some (.struct (Try.prog.fieldsOf 25)) := by kernel_rfl
  rw [run_equalIn_agg (P := Try.prog) w 9998 25 _ _ ht hp]
  simp [Program.fieldsOf, Try.underlying25, Op.eqFields, go_sem]
  by_cases h1 : a = c
  · by_cases h2 : b = d
    · subst h1; subst h2; simp
    · subst h1; simp [h2]
  · simp [h1]
theorem eq_crack : EqT Try.prog 62 [.int .i64 0, .int .i64 0, .int .i64 0, .int .i64 0, .int .i64 0, .int .i64 0] := by
  intro w xs ys ox oy hx hy
  obtain ⟨l, hl, rfl⟩ := kinds_int (n := 6) hx
  obtain ⟨r, hr, rfl⟩ := kinds_int (n := 6) hy
  match l, hl, r, hr with
  | [a1, a2, a3, a4, a5, a6], _, [b1, b2, b3, b4, b5, b6], _ =>
  have hm : Try.prog.eqGuardType Try.prog.depth 62 = false := by kernel_rfl
  have hp : Try.prog.stoodInHeld 62 = false := by kernel_rfl
  have ht : Try.prog.underlying 62 = some (.struct (Try.prog.fieldsOf 62)) := by kernel_rfl
  have key : (Op.equalIn 10000 62 (.agg [.int .i64 a1, .int .i64 a2, .int .i64 a3, .int .i64 a4, .int .i64 a5, .int .i64 a6].toArray) (.agg [.int .i64 b1, .int .i64 b2, .int .i64 b3, .int .i64 b4, .int .i64 b5, .int .i64 b6].toArray)).run Try.prog w = .ok (((((a1 == b1) && (a2 == b2)) && ((a3 == b3) && (a4 == b4))) && ((a5 == b5) && (a6 == b6)))) w := by
    rw [run_equalIn_agg (P := Try.prog) w 9999 62 _ _ ht hp]
    have i1 : ∀ w, (isAgg 25).run Try.prog w = .ok true w := fun w => (tyc_isAgg tyc_25 w).1
    have i2 : ∀ w, (sizeOf 25).run Try.prog w = .ok 2 w := fun w => (tyc_isAgg tyc_25 w).2
    simp [Program.fieldsOf, Try.underlying62, Op.eqFields, go_sem, part, i1, i2, run_span]
    rcases Classical.em (a1 = b1 ∧ a2 = b2) with ⟨rfl, rfl⟩ | h1
    · rcases Classical.em (a3 = b3 ∧ a4 = b4) with ⟨rfl, rfl⟩ | h2
      · rcases Classical.em (a5 = b5 ∧ a6 = b6) with ⟨rfl, rfl⟩ | h3
        · simp
        · have h3' : a5 = b5 → ¬ a6 = b6 := fun e1 e2 => h3 ⟨e1, e2⟩
          have h3b : ((a5 == b5) && (a6 == b6)) = false := by simpa using h3'
          rw [h3b]
          simp
          exact h3'
      · have h2' : a3 = b3 → ¬ a4 = b4 := fun e1 e2 => h2 ⟨e1, e2⟩
        have h2b : ((a3 == b3) && (a4 == b4)) = false := by simpa using h2'
        rw [h2b]
        simp
        intro e1 e2; exact absurd e2 (h2' e1)
    · have h1' : a1 = b1 → ¬ a2 = b2 := fun e1 e2 => h1 ⟨e1, e2⟩
      have h1b : ((a1 == b1) && (a2 == b2)) = false := by simpa using h1'
      rw [h1b]
      simp
      intro e1 e2; exact absurd e2 (h1' e1)
  have hz : (([Value.int .i64 a1, Value.int .i64 a2, Value.int .i64 a3, Value.int .i64 a4, Value.int .i64 a5, Value.int .i64 a6].zip [Value.int .i64 b1, Value.int .i64 b2, Value.int .i64 b3, Value.int .i64 b4, Value.int .i64 b5, Value.int .i64 b6]).all fun q => cellEq q.1 q.2) = (((((a1 == b1) && (a2 == b2)) && ((a3 == b3) && (a4 == b4))) && ((a5 == b5) && (a6 == b6)))) := by
    simp [cellEq, Bool.and_assoc]
  simp only [List.map_cons, List.map_nil] at *
  rw [hz]
  refine ⟨?_, ?_⟩
  · rw [Sem.run_bind, run_eqGuard_agg w _ _ _ _ _ _ hm, Result.andThen_ok, run_eql_struct, key]
    simp [Result.andThen]
  · rw [Sem.run_bind, run_eqGuard_agg w _ _ _ _ _ _ hm, Result.andThen_ok, run_neq_struct, key]
    simp [Result.andThen]
theorem eq_place : EqT Try.prog 133 [.int .i64 0, .int .i64 0] := by
  intro w xs ys ox oy hx hy
  obtain ⟨a, b, rfl⟩ := kinds_two hx
  obtain ⟨c, d, rfl⟩ := kinds_two hy
  have hm : Try.prog.eqGuardType Try.prog.depth 133 = false := by kernel_rfl
  have hp : Try.prog.stoodInHeld 133 = false := by kernel_rfl
  have ht : Try.prog.underlying 133 = some (.struct (Try.prog.fieldsOf 133)) := by kernel_rfl
  have key : (Op.equalIn 10000 133 (.agg [.int .i64 a, .int .i64 b].toArray) (.agg [.int .i64 c, .int .i64 d].toArray)).run Try.prog w = .ok (a == c && b == d) w := by
    rw [run_equalIn_agg (P := Try.prog) w 9999 133 _ _ ht hp]
    simp [Program.fieldsOf, Try.underlying133, Op.eqFields, go_sem]
    by_cases h1 : a = c <;> by_cases h2 : b = d <;> simp [h1, h2]
  refine ⟨?_, ?_⟩
  · rw [Sem.run_bind, run_eqGuard_agg w _ _ _ _ _ _ hm, Result.andThen_ok, run_eql_struct, key]
    simp [Result.andThen, cellEq]
  · rw [Sem.run_bind, run_eqGuard_agg w _ _ _ _ _ _ hm, Result.andThen_ok, run_neq_struct, key]
    simp [Result.andThen, cellEq]
def eqs : TypeId → Option (List Value) := fun t => if t = 25 then some [.int .i64 0, .int .i64 0] else if t = 62 then some [.int .i64 0, .int .i64 0, .int .i64 0, .int .i64 0, .int .i64 0, .int .i64 0] else if t = 133 then some [.int .i64 0, .int .i64 0] else none
instance : DecidableEq Crk := fun a b => decidable_of_iff (a.col = b.col ∧ a.frm = b.frm ∧ a.to = b.to) ⟨fun ⟨h1, h2, h3⟩ => by cases a; cases b; simp_all, fun h => by subst h; exact ⟨rfl, rfl, rfl⟩⟩
def AVsp (a b : Int) : AV := .agg [.v (.int .i64 a), .v (.int .i64 b)]
/-- The blade of the document's examples. -/
def exB : Bl := ⟨[(0, 2), (0, 0), (1, 4), (0, 0), (0, 1), (3, 3)], [(30, 30), (30, 30), (20, 22), (30, 30), (30, 30), (30, 30)], 10, [⟨(4, 5), (10, 11), (12, 14)⟩]⟩
def exS (n : Int) : Sw := ⟨2, n, 1, 0⟩
theorem eq_of_nth {α : Type} [Inhabited α] {a b : List α} (hl : a.length = b.length) (h : ∀ j, j < a.length → nth a j = nth b j) : a = b := by
  apply List.ext_getElem? 
  intro i
  by_cases hi : i < a.length
  · rw [nth_eq hi, nth_eq (by omega), h i hi]
  · rw [List.getElem?_eq_none (by omega), List.getElem?_eq_none (by omega)]
theorem ne_sp (x y : Sp) : (!([Value.int .i64 x.1, Value.int .i64 x.2].zip [Value.int .i64 y.1, Value.int .i64 y.2]).all fun q => cellEq q.1 q.2) = !decide (x = y) := by
  obtain ⟨x1, x2⟩ := x
  obtain ⟨y1, y2⟩ := y
  by_cases h1 : x1 = y1 <;> by_cases h2 : x2 = y2 <;> simp [cellEq, h1, h2]
theorem eqt_span : EqT Try.prog 25 [.int .i64 0, .int .i64 0] = True := eq_true eq_span
theorem eqt_crack : EqT Try.prog 62 [.int .i64 0, .int .i64 0, .int .i64 0, .int .i64 0, .int .i64 0, .int .i64 0] = True := eq_true eq_crack
theorem eqt_place : EqT Try.prog 133 [.int .i64 0, .int .i64 0] = True := eq_true eq_place
theorem ne_cr (x y : Crk) : (!([Value.int .i64 x.col.1, Value.int .i64 x.col.2, Value.int .i64 x.frm.1, Value.int .i64 x.frm.2, Value.int .i64 x.to.1, Value.int .i64 x.to.2].zip [Value.int .i64 y.col.1, Value.int .i64 y.col.2, Value.int .i64 y.frm.1, Value.int .i64 y.frm.2, Value.int .i64 y.to.1, Value.int .i64 y.to.2]).all fun q => cellEq q.1 q.2) = !decide (x = y) := by
  obtain ⟨⟨x1, x2⟩, ⟨x3, x4⟩, x5, x6⟩ := x
  obtain ⟨⟨y1, y2⟩, ⟨y3, y4⟩, y5, y6⟩ := y
  congr 1
  rw [Bool.eq_iff_iff, decide_eq_true_iff]
  simp [cellEq, Crk.mk.injEq, Prod.mk.injEq, and_assoc]
def exR : List Sp := [(0, 2), (0, 0), (1, 4), (0, 0), (0, 1), (3, 3)]
def exT : List Sp := [(30, 30), (30, 30), (20, 22), (30, 30), (30, 30), (30, 30)]
theorem ex_new : newErr exB = 0 ∧ newLow exB = exR ∧ newTop exB = exT := by decide +kernel
theorem ex_zero : blockErr exB (exS 6) 0 = 0 ∧ blockL exB (exS 6) 0 = [2, 9, 16, 23] := by decide +kernel
theorem ex_four : blockErr exB (exS 6) 4 = 0 ∧ blockL exB (exS 6) 4 = [3, 14, 21] := by decide +kernel
theorem ex_open : openErr exB (exS 6) = 0 := by decide +kernel
theorem ex_most : (mostL exB (exS 6)).length = 9 := by decide +kernel
theorem ex_bound : boundR exB (exS 6) = (9, 0, 0) := by decide +kernel
theorem ex_costs : costsL exB (exS 6) = [1] := by decide +kernel
theorem ex_wide : widestR exB (exS 6) 9 = (6, 0) := by decide +kernel
end Go.Proofs.Ytnalabgckndhoaa.Ab.T01
namespace Go.Proofs.Ytnalabgckndhoaa.Ab.T01
open Go Go.RowKit
set_option linter.unusedVariables false
set_option linter.unusedSimpArgs false
set_option maxRecDepth 100000
/-- The blade of the examples, and a saw, as arguments. -/
def exA : AV := .agg [.sl 2 (exB.bottom.map spR), .sl 2 (exB.top.map spR), .v (.int .i64 exB.bend), .sl 6 (exB.cracks.map crR)]
theorem k_most : SpecF Try.prog 25 [.agg [.sl 2 (exB.bottom.map spR), .sl 2 (exB.top.map spR), .v (.int .i64 exB.bend), .sl 6 (exB.cracks.map crR)], .agg [.v (.int .i64 2), .v (.int .i64 6), .v (.int .i64 1), .v (.int .i64 0)]]
    (.tup [.sl 2 ((mostL exB (exS 6)).map plcR), .v (.int .i64 0)]) [] := by
  have h := (mostB_spec exB (exS 6) (by simp [exB]) (by simp [exB])).frz
  rw [ex_open] at h
  exact h
theorem k_bound : SpecF Try.prog 13 [.agg [.sl 2 (exB.bottom.map spR), .sl 2 (exB.top.map spR), .v (.int .i64 exB.bend), .sl 6 (exB.cracks.map crR)], .agg [.v (.int .i64 2), .v (.int .i64 6), .v (.int .i64 1), .v (.int .i64 0)]]
    (.tup [.v (.int .i64 9), .v (.int .i64 0), .v (.int .i64 0)]) [] := by
  have h := boundB_spec exB (exS 6) (by simp [exB]) (by simp [exB])
  rw [ex_bound] at h
  exact h
end Go.Proofs.Ytnalabgckndhoaa.Ab.T01
