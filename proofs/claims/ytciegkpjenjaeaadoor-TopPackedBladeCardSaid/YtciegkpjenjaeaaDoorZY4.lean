/- The arguments: a blade in bytes. -/
import Derived.Test.YtciegkpjenjaeaaDoorZY1
import Derived.Test.YtciegkpjenjaeaaDoorZAbS
namespace Go.Proofs.YtciegkpjenjaeaaDoor.Ab.T01
open Go Go.RowKit
set_option linter.unusedSimpArgs false
set_option linter.unusedVariables false
set_option maxRecDepth 100000
theorem fit_slice {row l : List Cl} {ds : List DV} (h : FitL (.slice row :: l) ds) : ∃ rows ds', ds = .sl row.length rows :: ds' ∧ (∀ r ∈ rows, FitL row r) ∧ FitL l ds' := by
  cases ds with
  | nil => exact h.elim
  | cons d ds =>
    obtain ⟨h1, h2⟩ := h
    cases d with
    | v => exact h1.elim
    | sl sz rows =>
      obtain ⟨rfl, _, h3⟩ := h1
      exact ⟨rows, ds, rfl, h3, h2⟩
theorem rows_ok {α : Type} {row : List Cl} (f : α → List DV) {P : α → Prop} (hf : ∀ r, FitL row r → ∃ x, r = f x ∧ P x) : ∀ {rows : List (List DV)}, (∀ r ∈ rows, FitL row r) → ∃ L : List α, rows = L.map f ∧ ∀ x ∈ L, P x
  | [], _ => ⟨[], rfl, fun _ h => by simp at h⟩
  | r :: rows, h => by
    obtain ⟨x, rfl, hx⟩ := hf r (h r (by simp))
    obtain ⟨L, rfl, hL⟩ := rows_ok f hf (rows := rows) fun r hr => h r (by simp [hr])
    exact ⟨x :: L, rfl, fun y hy => by
      rcases List.mem_cons.1 hy with rfl | hy
      · exact hx
      · exact hL y hy⟩
theorem fit_c3 (r : List DV) (h : FitL [.int .u8, .int .u8, .int .u8] r) : ∃ c : C3, r = c3R c ∧ c.Ok := by
  obtain ⟨a0, _, rfl, b0, h⟩ := fit_int h
  obtain ⟨a1, _, rfl, b1, h⟩ := fit_int h
  obtain ⟨a2, _, rfl, b2, h⟩ := fit_int h
  obtain rfl := fit_nil h
  exact ⟨⟨a0, a1, a2⟩, rfl, fit_u8 b0, fit_u8 b1, fit_u8 b2⟩
theorem fit_ot {ds : List DV} (h : FitL [.int .u8, .int .u8, .int .u8, .int .u8, .int .u8, .int .u8, .int .u8, .int .u8, .int .u8, .int .u8, .int .u8, .int .u8, .int .u8, .int .u8, .int .u8, .int .u8, .int .u8, .int .u8, .int .u8, .int .u8, .int .u8, .int .u8, .int .u8, .int .u8, .int .u8, .slice [.int .u8, .int .u8, .int .u8], .int .u8, .int .u8, .int .u8, .int .u8] ds) : ∃ x : OT, x.Ok ∧ ds.map ofD = otA x := by
  obtain ⟨m, _, rfl, bm, h⟩ := fit_int h
  obtain ⟨g0, _, rfl, q0, h⟩ := fit_int h
  obtain ⟨g1, _, rfl, q1, h⟩ := fit_int h
  obtain ⟨g2, _, rfl, q2, h⟩ := fit_int h
  obtain ⟨g3, _, rfl, q3, h⟩ := fit_int h
  obtain ⟨g4, _, rfl, q4, h⟩ := fit_int h
  obtain ⟨g5, _, rfl, q5, h⟩ := fit_int h
  obtain ⟨g6, _, rfl, q6, h⟩ := fit_int h
  obtain ⟨g7, _, rfl, q7, h⟩ := fit_int h
  obtain ⟨g8, _, rfl, q8, h⟩ := fit_int h
  obtain ⟨g9, _, rfl, q9, h⟩ := fit_int h
  obtain ⟨g10, _, rfl, q10, h⟩ := fit_int h
  obtain ⟨g11, _, rfl, q11, h⟩ := fit_int h
  obtain ⟨g12, _, rfl, q12, h⟩ := fit_int h
  obtain ⟨g13, _, rfl, q13, h⟩ := fit_int h
  obtain ⟨g14, _, rfl, q14, h⟩ := fit_int h
  obtain ⟨g15, _, rfl, q15, h⟩ := fit_int h
  obtain ⟨g16, _, rfl, q16, h⟩ := fit_int h
  obtain ⟨g17, _, rfl, q17, h⟩ := fit_int h
  obtain ⟨g18, _, rfl, q18, h⟩ := fit_int h
  obtain ⟨g19, _, rfl, q19, h⟩ := fit_int h
  obtain ⟨g20, _, rfl, q20, h⟩ := fit_int h
  obtain ⟨g21, _, rfl, q21, h⟩ := fit_int h
  obtain ⟨g22, _, rfl, q22, h⟩ := fit_int h
  obtain ⟨g23, _, rfl, q23, h⟩ := fit_int h
  obtain ⟨r0, _, rfl, w0, h⟩ := fit_slice h
  obtain ⟨s0, _, rfl, c0, h⟩ := fit_int h
  obtain ⟨s1, _, rfl, c1, h⟩ := fit_int h
  obtain ⟨s2, _, rfl, c2, h⟩ := fit_int h
  obtain ⟨s3, _, rfl, c3, h⟩ := fit_int h
  obtain rfl := fit_nil h
  obtain ⟨L0, rfl, o0⟩ := rows_ok c3R fit_c3 w0
  refine ⟨⟨m, fun i => match i with | 0 => g0 | 1 => g1 | 2 => g2 | 3 => g3 | 4 => g4 | 5 => g5 | 6 => g6 | 7 => g7 | 8 => g8 | 9 => g9 | 10 => g10 | 11 => g11 | 12 => g12 | 13 => g13 | 14 => g14 | 15 => g15 | 16 => g16 | 17 => g17 | 18 => g18 | 19 => g19 | 20 => g20 | 21 => g21 | 22 => g22 | 23 => g23 | _ => 0, L0, s0, s1, s2, s3⟩, ⟨fit_u8 bm, fun i => ?_, o0, fit_u8 c0, fit_u8 c1, fit_u8 c2, fit_u8 c3⟩, rfl⟩
  simp only
  split
  all_goals first | exact ⟨by omega, by omega⟩ | (apply fit_u8; assumption)
theorem fit_3 {ds : List DV} (h : FitL [.int .u8, .int .u8, .int .u8] ds) : ∃ c : C3, c.Ok ∧ ds.map ofD = [.v (.int .u8 c.a), .v (.int .u8 c.b), .v (.int .u8 c.c)] := by
  obtain ⟨a0, _, rfl, b0, h⟩ := fit_int h
  obtain ⟨a1, _, rfl, b1, h⟩ := fit_int h
  obtain ⟨a2, _, rfl, b2, h⟩ := fit_int h
  obtain rfl := fit_nil h
  exact ⟨⟨a0, a1, a2⟩, ⟨fit_u8 b0, fit_u8 b1, fit_u8 b2⟩, rfl⟩
end Go.Proofs.YtciegkpjenjaeaaDoor.Ab.T01
