/- The arguments of the laws about outworkers, as abstract values. -/
import Derived.Test.YtfnohamcmidgbaaZL1
import Derived.Test.YtfnohamcmidgbaaZAbS
namespace Go.Proofs.Ytfnohamcmidgbaa.Ab.T07
open Go Go.RowKit
set_option linter.unusedSimpArgs false
set_option linter.unusedVariables false
theorem fit_slice {row l : List Cl} {ds : List DV} (h : FitL (.slice row :: l) ds) : ∃ rows ds', ds = .sl row.length rows :: ds' ∧ (∀ r ∈ rows, FitL row r) ∧ FitL l ds' := by
  cases ds with
  | nil => exact h.elim
  | cons d ds =>
    obtain ⟨h1, h2⟩ := h
    cases d with
    | v => exact h1.elim
    | sl sz rows =>
      obtain ⟨rfl, _, h3⟩ := h1
      exact ⟨rows, ds, rfl, h3, h2⟩
theorem rows_of {α : Type} {row : List Cl} (f : α → List DV) (hf : ∀ r, FitL row r → ∃ x, r = f x) : ∀ {rows : List (List DV)}, (∀ r ∈ rows, FitL row r) → ∃ L : List α, rows = L.map f
  | [], _ => ⟨[], rfl⟩
  | r :: rows, h => by
    obtain ⟨x, rfl⟩ := hf r (h r (by simp))
    obtain ⟨L, rfl⟩ := rows_of f hf (rows := rows) fun r hr => h r (by simp [hr])
    exact ⟨x :: L, rfl⟩
theorem fit_sp (r : List DV) (h : FitL [.int .i64, .int .i64] r) : ∃ s : Sp, r = spR s := by
  obtain ⟨a0, _, rfl, b0, h⟩ := fit_int h
  obtain ⟨a1, _, rfl, b1, h⟩ := fit_int h
  obtain rfl := fit_nil h
  exact ⟨(a0, a1), rfl⟩
theorem fit_i (r : List DV) (h : FitL [.int .i64] r) : ∃ s : Int, r = iR s := by
  obtain ⟨a0, _, rfl, b0, h⟩ := fit_int h
  obtain rfl := fit_nil h
  exact ⟨a0, rfl⟩
theorem fit_en (r : List DV) (h : FitL [.int .i64, .int .i64, .int .i64, .int .i64] r) : ∃ s : En, r = enR s := by
  obtain ⟨a0, _, rfl, b0, h⟩ := fit_int h
  obtain ⟨a1, _, rfl, b1, h⟩ := fit_int h
  obtain ⟨a2, _, rfl, b2, h⟩ := fit_int h
  obtain ⟨a3, _, rfl, b3, h⟩ := fit_int h
  obtain rfl := fit_nil h
  exact ⟨⟨a0, a1, a2, a3⟩, rfl⟩
theorem fit_hs {ds : List DV} (h : FitL [.int .i64, .slice [.int .i64, .int .i64], .slice [.int .i64]] ds) : ∃ h : Hs, ds.map ofD = [.v (.int .i64 h.sc), .sl 2 (h.tk.map spR), .sl 1 (h.lo.map iR)] := by
  obtain ⟨n, _, rfl, b0, h⟩ := fit_int h
  obtain ⟨r0, _, rfl, g0, h⟩ := fit_slice h
  obtain ⟨r1, _, rfl, g1, h⟩ := fit_slice h
  obtain rfl := fit_nil h
  obtain ⟨L0, rfl⟩ := rows_of spR fit_sp g0
  obtain ⟨L1, rfl⟩ := rows_of iR fit_i g1
  exact ⟨⟨n, L0, L1⟩, rfl⟩
end Go.Proofs.Ytfnohamcmidgbaa.Ab.T07
