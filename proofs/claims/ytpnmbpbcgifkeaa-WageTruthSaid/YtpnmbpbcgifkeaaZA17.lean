/- The arguments of WageTruth: a bill in bytes, three bytes, a byte. -/
import Derived.Test.YtpnmbpbcgifkeaaZV3
import Derived.Test.YtpnmbpbcgifkeaaZAbS
namespace Go.Proofs.Ytpnmbpbcgifkeaa.Ab.T12
open Go Go.RowKit
set_option linter.unusedSimpArgs false
set_option linter.unusedVariables false
theorem fit_sliceF {row l : List Cl} {ds : List DV} (h : FitL (.slice row :: l) ds) : ∃ rows ds', ds = .sl row.length rows :: ds' ∧ (∀ r ∈ rows, FitL row r) ∧ FitL l ds' := by
  cases ds with
  | nil => exact h.elim
  | cons d ds =>
    obtain ⟨h1, h2⟩ := h
    cases d with
    | v => exact h1.elim
    | sl sz rows =>
      obtain ⟨rfl, _, h3⟩ := h1
      exact ⟨rows, ds, rfl, h3, h2⟩
theorem rows_okF {α : Type} {row : List Cl} (f : α → List DV) {P : α → Prop} (hf : ∀ r, FitL row r → ∃ x, r = f x ∧ P x) : ∀ {rows : List (List DV)}, (∀ r ∈ rows, FitL row r) → ∃ L : List α, rows = L.map f ∧ ∀ x ∈ L, P x
  | [], _ => ⟨[], rfl, fun _ h => by simp at h⟩
  | r :: rows, h => by
    obtain ⟨x, rfl, hx⟩ := hf r (h r (by simp))
    obtain ⟨L, rfl, hL⟩ := rows_okF f hf (rows := rows) fun r hr => h r (by simp [hr])
    exact ⟨x :: L, rfl, fun y hy => by
      rcases List.mem_cons.1 hy with rfl | hy
      · exact hx
      · exact hL y hy⟩
theorem fit_p8 (r : List DV) (h : FitL [.int .u8, .int .u8] r) : ∃ c : Int × Int, r = p8R c ∧ P8 c := by
  obtain ⟨a0, _, rfl, b0, h⟩ := fit_int h
  obtain ⟨a1, _, rfl, b1, h⟩ := fit_int h
  obtain rfl := fit_nil h
  exact ⟨(a0, a1), rfl, fit_u8 b0, fit_u8 b1⟩
theorem fit_paper {ds : List DV} (h : FitL [.slice [.int .u8, .int .u8]] ds) : ∃ l : List (Int × Int), (∀ s ∈ l, P8 s) ∧ ds.map ofD = [.sl 2 (l.map p8R)] := by
  obtain ⟨r0, _, rfl, g0, h⟩ := fit_sliceF h
  obtain rfl := fit_nil h
  obtain ⟨L0, rfl, h0⟩ := rows_okF p8R fit_p8 g0
  exact ⟨L0, h0, rfl⟩
theorem fit_3 {ds : List DV} (h : FitL [.int .u8, .int .u8, .int .u8] ds) : ∃ c : List Int, (∀ i, i < 3 → 0 ≤ nth c i ∧ nth c i < 256) ∧ ds.map ofD = x3A c := by
  obtain ⟨a0, _, rfl, b0, h⟩ := fit_int h
  obtain ⟨a1, _, rfl, b1, h⟩ := fit_int h
  obtain ⟨a2, _, rfl, b2, h⟩ := fit_int h
  obtain rfl := fit_nil h
  refine ⟨[a0, a1, a2], fun i hi => ?_, rfl⟩
  rcases (by omega : i = 0 ∨ i = 1 ∨ i = 2) with rfl | rfl | rfl
  · exact fit_u8 b0
  · exact fit_u8 b1
  · exact fit_u8 b2
theorem u8_arg {P : Program} {w : World} {r : Reach} {base : Nat} {t : TypeId} {v : Value} (ht : P.underlying t = some (.int .u8)) (h : Value.okWide P w r base t v) : ∃ n, v = .int .u8 n ∧ (0 ≤ n ∧ n < 256) := by
  simp only [Value.okWide, ht, Cell.okWide] at h
  cases v <;> simp_all [Cell.ok, IntKind.has, IntKind.min, IntKind.max, IntKind.signed, IntKind.bits]
  omega
end Go.Proofs.Ytpnmbpbcgifkeaa.Ab.T12
