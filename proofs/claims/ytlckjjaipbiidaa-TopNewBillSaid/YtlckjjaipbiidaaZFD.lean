/- The arguments of TopNewBill: bytes, pairs of bytes, three bytes. -/
import Derived.Test.YtlckjjaipbiidaaZFC
import Derived.Test.YtlckjjaipbiidaaZAbS
namespace Go.Proofs.Ytlckjjaipbiidaa.Ab.T11.L
open Go Go.RowKit
set_option linter.unusedSimpArgs false
set_option linter.unusedVariables false
theorem rows_ok {α : Type} {row : List Cl} (f : α → List DV) {P : α → Prop} (hf : ∀ r, FitL row r → ∃ x, r = f x ∧ P x) : ∀ {rows : List (List DV)}, (∀ r ∈ rows, FitL row r) → ∃ L : List α, rows = L.map f ∧ ∀ x ∈ L, P x
  | [], _ => ⟨[], rfl, fun _ h => by simp at h⟩
  | r :: rows, h => by
    obtain ⟨x, rfl, hx⟩ := hf r (h r (by simp))
    obtain ⟨L, rfl, hL⟩ := rows_ok f hf (rows := rows) fun r hr => h r (by simp [hr])
    exact ⟨x :: L, rfl, fun y hy => by
      rcases List.mem_cons.1 hy with rfl | hy
      · exact hx
      · exact hL y hy⟩
theorem fit_by (r : List DV) (h : FitL [.int .u8] r) : ∃ c : Int, r = u8R c ∧ By c := by
  obtain ⟨a0, _, rfl, b0, h⟩ := fit_int h
  obtain rfl := fit_nil h
  exact ⟨a0, rfl, fit_u8 b0⟩
structure C3 where
  a : Int
  b : Int
  c : Int
structure C3.Ok (x : C3) : Prop where
  a : By x.a
  b : By x.b
  c : By x.c
theorem fit_3 {ds : List DV} (h : FitL [.int .u8, .int .u8, .int .u8] ds) : ∃ c : C3, c.Ok ∧ ds.map ofD = [.v (.int .u8 c.a), .v (.int .u8 c.b), .v (.int .u8 c.c)] := by
  obtain ⟨a0, _, rfl, b0, h⟩ := fit_int h
  obtain ⟨a1, _, rfl, b1, h⟩ := fit_int h
  obtain ⟨a2, _, rfl, b2, h⟩ := fit_int h
  obtain rfl := fit_nil h
  exact ⟨⟨a0, a1, a2⟩, ⟨fit_u8 b0, fit_u8 b1, fit_u8 b2⟩, rfl⟩
theorem rows_okF {α : Type} {row : List Cl} (f : α → List DV) {P : α → Prop} (hf : ∀ r, FitL row r → ∃ x, r = f x ∧ P x) : ∀ {rows : List (List DV)}, (∀ r ∈ rows, FitL row r) → ∃ L : List α, rows = L.map f ∧ ∀ x ∈ L, P x
  | [], _ => ⟨[], rfl, fun _ h => by simp at h⟩
  | r :: rows, h => by
    obtain ⟨x, rfl, hx⟩ := hf r (h r (by simp))
    obtain ⟨L, rfl, hL⟩ := rows_okF f hf (rows := rows) fun r hr => h r (by simp [hr])
    exact ⟨x :: L, rfl, fun y hy => by
      rcases List.mem_cons.1 hy with rfl | hy
      · exact hx
      · exact hL y hy⟩
theorem fit_b2 (r : List DV) (h : FitL [.int .u8, .int .u8] r) : ∃ c : Int × Int, r = b2R c ∧ (By c.1 ∧ By c.2) := by
  obtain ⟨a0, _, rfl, b0, h⟩ := fit_int h
  obtain ⟨a1, _, rfl, b1, h⟩ := fit_int h
  obtain rfl := fit_nil h
  exact ⟨(a0, a1), rfl, fit_u8 b0, fit_u8 b1⟩
end Go.Proofs.Ytlckjjaipbiidaa.Ab.T11.L
