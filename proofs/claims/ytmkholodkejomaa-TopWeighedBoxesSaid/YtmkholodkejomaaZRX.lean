/- The arguments of TopWeighedBoxes: pairs of bytes, a byte. -/
import Derived.Test.YtmkholodkejomaaZRW
import Derived.Test.YtmkholodkejomaaZAbS
namespace Go.Proofs.Ytmkholodkejomaa.Ab.T08
open Go Go.RowKit
set_option linter.unusedSimpArgs false
set_option linter.unusedVariables false
theorem rows_okF {α : Type} {row : List Cl} (f : α → List DV) {P : α → Prop} (hf : ∀ r, FitL row r → ∃ x, r = f x ∧ P x) : ∀ {rows : List (List DV)}, (∀ r ∈ rows, FitL row r) → ∃ L : List α, rows = L.map f ∧ ∀ x ∈ L, P x
  | [], _ => ⟨[], rfl, fun _ h => by simp at h⟩
  | r :: rows, h => by
    obtain ⟨x, rfl, hx⟩ := hf r (h r (by simp))
    obtain ⟨L, rfl, hL⟩ := rows_okF f hf (rows := rows) fun r hr => h r (by simp [hr])
    exact ⟨x :: L, rfl, fun y hy => by
      rcases List.mem_cons.1 hy with rfl | hy
      · exact hx
      · exact hL y hy⟩
theorem fit_b2 (r : List DV) (h : FitL [.int .u8, .int .u8] r) : ∃ c : Int × Int, r = b2R c ∧ B2 c := by
  obtain ⟨a0, _, rfl, b0, h⟩ := fit_int h
  obtain ⟨a1, _, rfl, b1, h⟩ := fit_int h
  obtain rfl := fit_nil h
  exact ⟨(a0, a1), rfl, fit_u8 b0, fit_u8 b1⟩
theorem u8_arg {P : Program} {w : World} {r : Reach} {base : Nat} {t : TypeId} {v : Value} (ht : P.underlying t = some (.int .u8)) (h : Value.okWide P w r base t v) : ∃ n, v = .int .u8 n ∧ (0 ≤ n ∧ n < 256) := by
  simp only [Value.okWide, ht, Cell.okWide] at h
  cases v <;> simp_all [Cell.ok, IntKind.has, IntKind.min, IntKind.max, IntKind.signed, IntKind.bits]
  omega
end Go.Proofs.Ytmkholodkejomaa.Ab.T08
