/- The arguments of the laws about wages, as abstract values. -/
import Derived.Test.YtmjnlcfnaoloeaaZH1
import Derived.Test.YtmjnlcfnaoloeaaZAbS
namespace Go.Proofs.Ytmjnlcfnaoloeaa.Ab.T12
open Go Go.RowKit
set_option linter.unusedSimpArgs false
set_option linter.unusedVariables false
theorem fit_slice {row l : List Cl} {ds : List DV} (h : FitL (.slice row :: l) ds) : ∃ rows ds', ds = .sl row.length rows :: ds' ∧ (∀ r ∈ rows, FitL row r) ∧ FitL l ds' := by
  cases ds with
  | nil => exact h.elim
  | cons d ds =>
    obtain ⟨h1, h2⟩ := h
    cases d with
    | v => exact h1.elim
    | sl sz rows =>
      obtain ⟨rfl, _, h3⟩ := h1
      exact ⟨rows, ds, rfl, h3, h2⟩
theorem rows_of {α : Type} {row : List Cl} (f : α → List DV) (hf : ∀ r, FitL row r → ∃ x, r = f x) : ∀ {rows : List (List DV)}, (∀ r ∈ rows, FitL row r) → ∃ L : List α, rows = L.map f
  | [], _ => ⟨[], rfl⟩
  | r :: rows, h => by
    obtain ⟨x, rfl⟩ := hf r (h r (by simp))
    obtain ⟨L, rfl⟩ := rows_of f hf (rows := rows) fun r hr => h r (by simp [hr])
    exact ⟨x :: L, rfl⟩
theorem fit_step (r : List DV) (h : FitL [.int .i64, .int .i64] r) : ∃ s : Int × Int, r = sR s := by
  obtain ⟨a0, _, rfl, b0, h⟩ := fit_int h
  obtain ⟨a1, _, rfl, b1, h⟩ := fit_int h
  obtain rfl := fit_nil h
  exact ⟨(a0, a1), rfl⟩
theorem fit_i (r : List DV) (h : FitL [.int .i64] r) : ∃ s : Int, r = iR s := by
  obtain ⟨a0, _, rfl, b0, h⟩ := fit_int h
  obtain rfl := fit_nil h
  exact ⟨a0, rfl⟩
theorem fit_ln (r : List DV) (h : FitL [.int .i64, .int .i64, .int .i64] r) : ∃ s : Ln, r = lnR s := by
  obtain ⟨a0, _, rfl, b0, h⟩ := fit_int h
  obtain ⟨a1, _, rfl, b1, h⟩ := fit_int h
  obtain ⟨a2, _, rfl, b2, h⟩ := fit_int h
  obtain rfl := fit_nil h
  exact ⟨⟨a0, a1, a2⟩, rfl⟩
theorem fit_rate {ds : List DV} (h : FitL [.slice [.int .i64, .int .i64], .int .i64, .int .i64] ds) : ∃ r : Rate, ds.map ofD = [.sl 2 (r.steps.map sR), .v (.int .i64 r.piece), .v (.int .i64 r.fine)] := by
  obtain ⟨r0, _, rfl, g0, h⟩ := fit_slice h
  obtain ⟨a1, _, rfl, b1, h⟩ := fit_int h
  obtain ⟨a2, _, rfl, b2, h⟩ := fit_int h
  obtain rfl := fit_nil h
  obtain ⟨L0, rfl⟩ := rows_of sR fit_step g0
  exact ⟨⟨L0, a1, a2⟩, rfl⟩
structure Wk3 where
  d : Int
  p : Int
  b : Int
theorem fit_work {ds : List DV} (h : FitL [.int .i64, .int .i64, .int .i64] ds) : ∃ w : Wk3, ds.map ofD = [.v (.int .i64 w.d), .v (.int .i64 w.p), .v (.int .i64 w.b)] := by
  obtain ⟨a0, _, rfl, b0, h⟩ := fit_int h
  obtain ⟨a1, _, rfl, b1, h⟩ := fit_int h
  obtain ⟨a2, _, rfl, b2, h⟩ := fit_int h
  obtain rfl := fit_nil h
  exact ⟨⟨a0, a1, a2⟩, rfl⟩
theorem fit_bill {ds : List DV} (h : FitL [.slice [.int .i64, .int .i64, .int .i64], .int .i64] ds) : ∃ b : Bl, ds.map ofD = [.sl 3 (b.lines.map lnR), .v (.int .i64 b.total)] := by
  obtain ⟨r0, _, rfl, g0, h⟩ := fit_slice h
  obtain ⟨a1, _, rfl, b1, h⟩ := fit_int h
  obtain rfl := fit_nil h
  obtain ⟨L0, rfl⟩ := rows_of lnR fit_ln g0
  exact ⟨⟨L0, a1⟩, rfl⟩
end Go.Proofs.Ytmjnlcfnaoloeaa.Ab.T12
