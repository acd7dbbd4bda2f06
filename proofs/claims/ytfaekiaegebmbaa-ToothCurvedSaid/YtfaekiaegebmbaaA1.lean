/- The arguments of the laws of the teeth, as abstract values. -/
import Derived.Test.YtfaekiaegebmbaaR11
import Derived.Test.YtfaekiaegebmbaaAbS
namespace Go.Proofs.Ytfaekiaegebmbaa.Ab.T01
open Go Go.RowKit
set_option linter.unusedSimpArgs false
set_option linter.unusedVariables false
theorem fit_slice {row l : List Cl} {ds : List DV} (h : FitL (.slice row :: l) ds) : ∃ rows ds', ds = .sl row.length rows :: ds' ∧ (∀ r ∈ rows, FitL row r) ∧ FitL l ds' := by
  cases ds with
  | nil => exact h.elim
  | cons d ds =>
    obtain ⟨h1, h2⟩ := h
    cases d with
    | v => exact h1.elim
    | sl sz rows =>
      obtain ⟨rfl, _, h3⟩ := h1
      exact ⟨rows, ds, rfl, h3, h2⟩
theorem rows_of {α : Type} {row : List Cl} (f : α → List DV) (hf : ∀ r, FitL row r → ∃ x, r = f x) : ∀ {rows : List (List DV)}, (∀ r ∈ rows, FitL row r) → ∃ L : List α, rows = L.map f
  | [], _ => ⟨[], rfl⟩
  | r :: rows, h => by
    obtain ⟨x, rfl⟩ := hf r (h r (by simp))
    obtain ⟨L, rfl⟩ := rows_of f hf (rows := rows) fun r hr => h r (by simp [hr])
    exact ⟨x :: L, rfl⟩
theorem fit_sp (r : List DV) (h : FitL [.int .i64, .int .i64] r) : ∃ s : Sp, r = spR s := by
  obtain ⟨a0, _, rfl, b0, h⟩ := fit_int h
  obtain ⟨a1, _, rfl, b1, h⟩ := fit_int h
  obtain rfl := fit_nil h
  exact ⟨(a0, a1), rfl⟩
theorem fit_plc (r : List DV) (h : FitL [.int .i64, .int .i64] r) : ∃ s : Int × Int, r = plcR s := fit_sp r h
theorem fit_cr (r : List DV) (h : FitL [.int .i64, .int .i64, .int .i64, .int .i64, .int .i64, .int .i64] r) : ∃ c : Crk, r = crR c := by
  obtain ⟨a0, _, rfl, b0, h⟩ := fit_int h
  obtain ⟨a1, _, rfl, b1, h⟩ := fit_int h
  obtain ⟨a2, _, rfl, b2, h⟩ := fit_int h
  obtain ⟨a3, _, rfl, b3, h⟩ := fit_int h
  obtain ⟨a4, _, rfl, b4, h⟩ := fit_int h
  obtain ⟨a5, _, rfl, b5, h⟩ := fit_int h
  obtain rfl := fit_nil h
  exact ⟨⟨(a0, a1), (a2, a3), (a4, a5)⟩, rfl⟩
theorem fit_bl {ds : List DV} (h : FitL [.slice [.int .i64, .int .i64], .slice [.int .i64, .int .i64], .int .i64, .slice [.int .i64, .int .i64, .int .i64, .int .i64, .int .i64, .int .i64]] ds) : ∃ b : Bl, ds.map ofD = [.sl 2 (b.bottom.map spR), .sl 2 (b.top.map spR), .v (.int .i64 b.bend), .sl 6 (b.cracks.map crR)] := by
  obtain ⟨r0, _, rfl, g0, h⟩ := fit_slice h
  obtain ⟨r1, _, rfl, g1, h⟩ := fit_slice h
  obtain ⟨n, _, rfl, b0, h⟩ := fit_int h
  obtain ⟨r2, _, rfl, g2, h⟩ := fit_slice h
  obtain rfl := fit_nil h
  obtain ⟨L0, rfl⟩ := rows_of spR fit_sp g0
  obtain ⟨L1, rfl⟩ := rows_of spR fit_sp g1
  obtain ⟨L2, rfl⟩ := rows_of crR fit_cr g2
  exact ⟨⟨L0, L1, n, L2⟩, rfl⟩
theorem fit_sw {ds : List DV} (h : FitL [.int .i64, .int .i64, .int .i64, .int .i64] ds) : ∃ s : Sw, ds.map ofD = [.v (.int .i64 s.long), .v (.int .i64 s.wide), .v (.int .i64 s.kerf), .v (.int .i64 s.across)] := by
  obtain ⟨a0, _, rfl, b0, h⟩ := fit_int h
  obtain ⟨a1, _, rfl, b1, h⟩ := fit_int h
  obtain ⟨a2, _, rfl, b2, h⟩ := fit_int h
  obtain ⟨a3, _, rfl, b3, h⟩ := fit_int h
  obtain rfl := fit_nil h
  exact ⟨⟨a0, a1, a2, a3⟩, rfl⟩
theorem fit_pl {ds : List DV} (h : FitL [.int .i64, .int .i64] ds) : ∃ s : Sp, ds.map ofD = [.v (.int .i64 s.1), .v (.int .i64 s.2)] := by
  obtain ⟨s, rfl⟩ := fit_sp _ h
  exact ⟨s, rfl⟩
end Go.Proofs.Ytfaekiaegebmbaa.Ab.T01
