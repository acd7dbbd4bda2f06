/- The arguments of the laws about outworkers, as abstract values. The arguments of the plain laws about outworkers: a shop in bytes. -/
import Derived.Test.YtninkfpeeemcoaaZLA
import Derived.Test.YtninkfpeeemcoaaZAbS
import Derived.Test.YtninkfpeeemcoaaZS1
namespace Go.Proofs.Ytninkfpeeemcoaa.Ab.T07
open Go Go.RowKit
set_option linter.unusedSimpArgs false
set_option linter.unusedVariables false
theorem fit_slice {row l : List Cl} {ds : List DV} (h : FitL (.slice row :: l) ds) : ∃ rows ds', ds = .sl row.length rows :: ds' ∧ (∀ r ∈ rows, FitL row r) ∧ FitL l ds' := by
  cases ds with
  | nil => exact h.elim
  | cons d ds =>
    obtain ⟨h1, h2⟩ := h
    cases d with
    | v => exact h1.elim
    | sl sz rows =>
      obtain ⟨rfl, _, h3⟩ := h1
      exact ⟨rows, ds, rfl, h3, h2⟩
theorem rows_of {α : Type} {row : List Cl} (f : α → List DV) (hf : ∀ r, FitL row r → ∃ x, r = f x) : ∀ {rows : List (List DV)}, (∀ r ∈ rows, FitL row r) → ∃ L : List α, rows = L.map f
  | [], _ => ⟨[], rfl⟩
  | r :: rows, h => by
    obtain ⟨x, rfl⟩ := hf r (h r (by simp))
    obtain ⟨L, rfl⟩ := rows_of f hf (rows := rows) fun r hr => h r (by simp [hr])
    exact ⟨x :: L, rfl⟩
theorem fit_sp (r : List DV) (h : FitL [.int .i64, .int .i64] r) : ∃ s : Sp, r = spR s := by
  obtain ⟨a0, _, rfl, b0, h⟩ := fit_int h
  obtain ⟨a1, _, rfl, b1, h⟩ := fit_int h
  obtain rfl := fit_nil h
  exact ⟨(a0, a1), rfl⟩
theorem fit_i (r : List DV) (h : FitL [.int .i64] r) : ∃ s : Int, r = iR s := by
  obtain ⟨a0, _, rfl, b0, h⟩ := fit_int h
  obtain rfl := fit_nil h
  exact ⟨a0, rfl⟩
theorem fit_en (r : List DV) (h : FitL [.int .i64, .int .i64, .int .i64, .int .i64] r) : ∃ s : En, r = enR s := by
  obtain ⟨a0, _, rfl, b0, h⟩ := fit_int h
  obtain ⟨a1, _, rfl, b1, h⟩ := fit_int h
  obtain ⟨a2, _, rfl, b2, h⟩ := fit_int h
  obtain ⟨a3, _, rfl, b3, h⟩ := fit_int h
  obtain rfl := fit_nil h
  exact ⟨⟨a0, a1, a2, a3⟩, rfl⟩
theorem fit_hs {ds : List DV} (h : FitL [.int .i64, .slice [.int .i64, .int .i64], .slice [.int .i64]] ds) : ∃ h : Hs, ds.map ofD = [.v (.int .i64 h.sc), .sl 2 (h.tk.map spR), .sl 1 (h.lo.map iR)] := by
  obtain ⟨n, _, rfl, b0, h⟩ := fit_int h
  obtain ⟨r0, _, rfl, g0, h⟩ := fit_slice h
  obtain ⟨r1, _, rfl, g1, h⟩ := fit_slice h
  obtain rfl := fit_nil h
  obtain ⟨L0, rfl⟩ := rows_of spR fit_sp g0
  obtain ⟨L1, rfl⟩ := rows_of iR fit_i g1
  exact ⟨⟨n, L0, L1⟩, rfl⟩
end Go.Proofs.Ytninkfpeeemcoaa.Ab.T07
namespace Go.Proofs.Ytninkfpeeemcoaa.Ab.T07
open Go Go.RowKit
set_option linter.unusedSimpArgs false
set_option linter.unusedVariables false
theorem rows_ok {α : Type} {row : List Cl} (f : α → List DV) {P : α → Prop} (hf : ∀ r, FitL row r → ∃ x, r = f x ∧ P x) : ∀ {rows : List (List DV)}, (∀ r ∈ rows, FitL row r) → ∃ L : List α, rows = L.map f ∧ ∀ x ∈ L, P x
  | [], _ => ⟨[], rfl, fun _ h => by simp at h⟩
  | r :: rows, h => by
    obtain ⟨x, rfl, hx⟩ := hf r (h r (by simp))
    obtain ⟨L, rfl, hL⟩ := rows_ok f hf (rows := rows) fun r hr => h r (by simp [hr])
    exact ⟨x :: L, rfl, fun y hy => by
      rcases List.mem_cons.1 hy with rfl | hy
      · exact hx
      · exact hL y hy⟩
theorem fit_c4 (r : List DV) (h : FitL [.int .u8, .int .u8, .int .u8, .int .u8] r) : ∃ c : C4, r = c4R c ∧ c.Ok := by
  obtain ⟨a0, _, rfl, b0, h⟩ := fit_int h
  obtain ⟨a1, _, rfl, b1, h⟩ := fit_int h
  obtain ⟨a2, _, rfl, b2, h⟩ := fit_int h
  obtain ⟨a3, _, rfl, b3, h⟩ := fit_int h
  obtain rfl := fit_nil h
  exact ⟨⟨a0, a1, a2, a3⟩, rfl, fit_u8 b0, fit_u8 b1, fit_u8 b2, fit_u8 b3⟩
theorem fit_by (r : List DV) (h : FitL [.int .u8] r) : ∃ c : Int, r = u8R c ∧ By c := by
  obtain ⟨a0, _, rfl, b0, h⟩ := fit_int h
  obtain rfl := fit_nil h
  exact ⟨a0, rfl, fit_u8 b0⟩
theorem fit_shop {ds : List DV} (h : FitL [.int .u8, .int .u8, .int .u8, .int .u8, .int .u8, .int .u8, .slice [.int .u8, .int .u8, .int .u8, .int .u8]] ds) : ∃ x : Sh, x.Ok ∧ ds.map ofD = shA x := by
  obtain ⟨a0, _, rfl, b0, h⟩ := fit_int h
  obtain ⟨a1, _, rfl, b1, h⟩ := fit_int h
  obtain ⟨a2, _, rfl, b2, h⟩ := fit_int h
  obtain ⟨a3, _, rfl, b3, h⟩ := fit_int h
  obtain ⟨a4, _, rfl, b4, h⟩ := fit_int h
  obtain ⟨a5, _, rfl, b5, h⟩ := fit_int h
  obtain ⟨r0, _, rfl, g0, h⟩ := fit_slice h
  obtain rfl := fit_nil h
  obtain ⟨L0, rfl, o0⟩ := rows_ok c4R fit_c4 g0
  exact ⟨⟨⟨a0, a1, a2, a3, a4, a5⟩, L0⟩, ⟨⟨fit_u8 b0, fit_u8 b1, fit_u8 b2, fit_u8 b3, fit_u8 b4, fit_u8 b5⟩, o0⟩, rfl⟩
theorem fit_2 {ds : List DV} (h : FitL [.int .u8, .int .u8] ds) : ∃ x : Int × Int, (By x.1 ∧ By x.2) ∧ ds.map ofD = [.v (.int .u8 x.1), .v (.int .u8 x.2)] := by
  obtain ⟨a0, _, rfl, b0, h⟩ := fit_int h
  obtain ⟨a1, _, rfl, b1, h⟩ := fit_int h
  obtain rfl := fit_nil h
  exact ⟨(a0, a1), ⟨fit_u8 b0, fit_u8 b1⟩, rfl⟩
theorem u8_arg {P : Program} {w : World} {r : Reach} {base : Nat} {t : TypeId} {v : Value} (ht : P.underlying t = some (.int .u8)) (h : Value.okWide P w r base t v) : ∃ n, v = .int .u8 n ∧ By n := by
  simp only [Value.okWide, ht, Cell.okWide] at h
  unfold By
  cases v <;> simp_all [Cell.ok, IntKind.has, IntKind.min, IntKind.max, IntKind.signed, IntKind.bits]
  omega
end Go.Proofs.Ytninkfpeeemcoaa.Ab.T07
