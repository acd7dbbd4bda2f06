/- The arguments of the laws of the teeth: a blade and a saw in bytes. -/
import Derived.Test.YtfaekiaegebmbaaA1
import Derived.Test.YtfaekiaegebmbaaQ8
namespace Go.Proofs.Ytfaekiaegebmbaa.Ab.T01
open Go Go.RowKit
set_option linter.unusedSimpArgs false
set_option linter.unusedVariables false
theorem rows_ok {α : Type} {row : List Cl} (f : α → List DV) {P : α → Prop} (hf : ∀ r, FitL row r → ∃ x, r = f x ∧ P x) : ∀ {rows : List (List DV)}, (∀ r ∈ rows, FitL row r) → ∃ L : List α, rows = L.map f ∧ ∀ x ∈ L, P x
  | [], _ => ⟨[], rfl, fun _ h => by simp at h⟩
  | r :: rows, h => by
    obtain ⟨x, rfl, hx⟩ := hf r (h r (by simp))
    obtain ⟨L, rfl, hL⟩ := rows_ok f hf (rows := rows) fun r hr => h r (by simp [hr])
    exact ⟨x :: L, rfl, fun y hy => by
      rcases List.mem_cons.1 hy with rfl | hy
      · exact hx
      · exact hL y hy⟩
theorem fit_c4 (r : List DV) (h : FitL [.int .u8, .int .u8, .int .u8, .int .u8] r) : ∃ c : C4, r = c4R c ∧ c.Ok := by
  obtain ⟨a0, _, rfl, b0, h⟩ := fit_int h
  obtain ⟨a1, _, rfl, b1, h⟩ := fit_int h
  obtain ⟨a2, _, rfl, b2, h⟩ := fit_int h
  obtain ⟨a3, _, rfl, b3, h⟩ := fit_int h
  obtain rfl := fit_nil h
  exact ⟨⟨a0, a1, a2, a3⟩, rfl, fit_u8 b0, fit_u8 b1, fit_u8 b2, fit_u8 b3⟩
theorem fit_c6 (r : List DV) (h : FitL [.int .u8, .int .u8, .int .u8, .int .u8, .int .u8, .int .u8] r) : ∃ c : C6, r = c6R c ∧ c.Ok := by
  obtain ⟨a0, _, rfl, b0, h⟩ := fit_int h
  obtain ⟨a1, _, rfl, b1, h⟩ := fit_int h
  obtain ⟨a2, _, rfl, b2, h⟩ := fit_int h
  obtain ⟨a3, _, rfl, b3, h⟩ := fit_int h
  obtain ⟨a4, _, rfl, b4, h⟩ := fit_int h
  obtain ⟨a5, _, rfl, b5, h⟩ := fit_int h
  obtain rfl := fit_nil h
  exact ⟨⟨a0, a1, a2, a3, a4, a5⟩, rfl, fit_u8 b0, fit_u8 b1, fit_u8 b2, fit_u8 b3, fit_u8 b4, fit_u8 b5⟩
theorem fit_tk {ds : List DV} (h : FitL [.slice [.int .u8, .int .u8, .int .u8, .int .u8], .int .u8, .slice [.int .u8, .int .u8, .int .u8, .int .u8, .int .u8, .int .u8], .int .u8, .int .u8, .int .u8, .int .u8] ds) :
    ∃ x : Tk, x.Ok ∧ ds.map ofD = [.sl 4 (x.cols.map c4R), .v (.int .u8 x.bend), .sl 6 (x.cracks.map c6R), .v (.int .u8 x.saw.a), .v (.int .u8 x.saw.b), .v (.int .u8 x.saw.c), .v (.int .u8 x.saw.d)] := by
  obtain ⟨r0, _, rfl, g0, h⟩ := fit_slice h
  obtain ⟨n, _, rfl, b0, h⟩ := fit_int h
  obtain ⟨r1, _, rfl, g1, h⟩ := fit_slice h
  obtain ⟨a0, _, rfl, c0, h⟩ := fit_int h
  obtain ⟨a1, _, rfl, c1, h⟩ := fit_int h
  obtain ⟨a2, _, rfl, c2, h⟩ := fit_int h
  obtain ⟨a3, _, rfl, c3, h⟩ := fit_int h
  obtain rfl := fit_nil h
  obtain ⟨L0, rfl, o0⟩ := rows_ok c4R fit_c4 g0
  obtain ⟨L1, rfl, o1⟩ := rows_ok c6R fit_c6 g1
  exact ⟨⟨L0, n, L1, ⟨a0, a1, a2, a3⟩⟩, ⟨o0, fit_u8 b0, o1, ⟨fit_u8 c0, fit_u8 c1, fit_u8 c2, fit_u8 c3⟩⟩, rfl⟩
theorem u8_arg {P : Program} {w : World} {r : Reach} {base : Nat} {t : TypeId} {v : Value} (ht : P.underlying t = some (.int .u8)) (h : Value.okWide P w r base t v) : ∃ n, v = .int .u8 n ∧ By n := by
  simp only [Value.okWide, ht, Cell.okWide] at h
  unfold By
  cases v <;> simp_all [Cell.ok, IntKind.has, IntKind.min, IntKind.max, IntKind.signed, IntKind.bits]
  omega
end Go.Proofs.Ytfaekiaegebmbaa.Ab.T01
