/- The arguments of TopPierced: a blade, a saw and a piercer in bytes, a byte. -/
import Derived.Test.YtdgeocjchnandaaZD8
import Derived.Test.YtdgeocjchnandaaZAbS
namespace Go.Proofs.Ytdgeocjchnandaa.Ab.T01
open Go Go.RowKit
set_option linter.unusedSimpArgs false
set_option linter.unusedVariables false
theorem fit_sliceF {row l : List Cl} {ds : List DV} (h : FitL (.slice row :: l) ds) : ∃ rows ds', ds = .sl row.length rows :: ds' ∧ (∀ r ∈ rows, FitL row r) ∧ FitL l ds' := by
  cases ds with
  | nil => exact h.elim
  | cons d ds =>
    obtain ⟨h1, h2⟩ := h
    cases d with
    | v => exact h1.elim
    | sl sz rows =>
      obtain ⟨rfl, _, h3⟩ := h1
      exact ⟨rows, ds, rfl, h3, h2⟩
theorem rows_okF {α : Type} {row : List Cl} (f : α → List DV) {P : α → Prop} (hf : ∀ r, FitL row r → ∃ x, r = f x ∧ P x) : ∀ {rows : List (List DV)}, (∀ r ∈ rows, FitL row r) → ∃ L : List α, rows = L.map f ∧ ∀ x ∈ L, P x
  | [], _ => ⟨[], rfl, fun _ h => by simp at h⟩
  | r :: rows, h => by
    obtain ⟨x, rfl, hx⟩ := hf r (h r (by simp))
    obtain ⟨L, rfl, hL⟩ := rows_okF f hf (rows := rows) fun r hr => h r (by simp [hr])
    exact ⟨x :: L, rfl, fun y hy => by
      rcases List.mem_cons.1 hy with rfl | hy
      · exact hx
      · exact hL y hy⟩
theorem fit_b2 (r : List DV) (h : FitL [.int .u8, .int .u8] r) : ∃ c : Int × Int, r = b2R c ∧ By c.1 ∧ By c.2 := by
  obtain ⟨a0, _, rfl, b0, h⟩ := fit_int h
  obtain ⟨a1, _, rfl, b1, h⟩ := fit_int h
  obtain rfl := fit_nil h
  exact ⟨(a0, a1), rfl, fit_u8 b0, fit_u8 b1⟩
theorem fit_iv {ds : List DV} (h : FitL [.slice [.int .u8, .int .u8], .int .u8, .int .u8, .int .u8, .int .u8, .int .u8, .int .u8, .int .u8, .int .u8] ds) : ∃ x : Iv, x.Ok ∧ ds.map ofD = ivA x := by
  obtain ⟨r0, _, rfl, g0, h⟩ := fit_sliceF h
  obtain ⟨a0, _, rfl, c0, h⟩ := fit_int h
  obtain ⟨a1, _, rfl, c1, h⟩ := fit_int h
  obtain ⟨a2, _, rfl, c2, h⟩ := fit_int h
  obtain ⟨a3, _, rfl, c3, h⟩ := fit_int h
  obtain ⟨a4, _, rfl, c4, h⟩ := fit_int h
  obtain ⟨a5, _, rfl, c5, h⟩ := fit_int h
  obtain ⟨a6, _, rfl, c6, h⟩ := fit_int h
  obtain ⟨a7, _, rfl, c7, h⟩ := fit_int h
  obtain rfl := fit_nil h
  obtain ⟨L0, rfl, o0⟩ := rows_okF b2R fit_b2 g0
  exact ⟨⟨L0, a0, a1, a2, a3, a4, a5, a6, a7⟩, ⟨o0, fit_u8 c0, fit_u8 c1, fit_u8 c2, fit_u8 c3, fit_u8 c4, fit_u8 c5, fit_u8 c6, fit_u8 c7⟩, rfl⟩
theorem u8_arg {P : Program} {w : World} {r : Reach} {base : Nat} {t : TypeId} {v : Value} (ht : P.underlying t = some (.int .u8)) (h : Value.okWide P w r base t v) : ∃ n, v = .int .u8 n ∧ By n := by
  simp only [Value.okWide, ht, Cell.okWide] at h
  unfold By
  cases v <;> simp_all [Cell.ok, IntKind.has, IntKind.min, IntKind.max, IntKind.signed, IntKind.bits]
  omega
end Go.Proofs.Ytdgeocjchnandaa.Ab.T01
