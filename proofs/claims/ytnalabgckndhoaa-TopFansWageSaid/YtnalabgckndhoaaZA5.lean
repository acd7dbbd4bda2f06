/- The arguments of TopFansWage: bytes and short numbers. -/
import Derived.Test.YtnalabgckndhoaaZP10
import Derived.Test.YtnalabgckndhoaaZAbS
namespace Go.Proofs.Ytnalabgckndhoaa.Ab.TF
open Go Go.RowKit
set_option linter.unusedSimpArgs false
set_option linter.unusedVariables false
theorem rows_ok {α : Type} {row : List Cl} (f : α → List DV) {P : α → Prop} (hf : ∀ r, FitL row r → ∃ x, r = f x ∧ P x) : ∀ {rows : List (List DV)}, (∀ r ∈ rows, FitL row r) → ∃ L : List α, rows = L.map f ∧ ∀ x ∈ L, P x
  | [], _ => ⟨[], rfl, fun _ h => by simp at h⟩
  | r :: rows, h => by
    obtain ⟨x, rfl, hx⟩ := hf r (h r (by simp))
    obtain ⟨L, rfl, hL⟩ := rows_ok f hf (rows := rows) fun r hr => h r (by simp [hr])
    exact ⟨x :: L, rfl, fun y hy => by
      rcases List.mem_cons.1 hy with rfl | hy
      · exact hx
      · exact hL y hy⟩
def w16 (n : Int) : Prop := 0 ≤ n ∧ n < 65536
def by8 (n : Int) : Prop := 0 ≤ n ∧ n < 256
theorem fit_w (r : List DV) (h : FitL [.int .u16] r) : ∃ c : Int, r = u16R c ∧ w16 c := by
  obtain ⟨a0, _, rfl, b0, h⟩ := fit_int h
  obtain rfl := fit_nil h
  exact ⟨a0, rfl, fit_u16 b0⟩
structure V5 where
  a : Int
  b : Int
  c : Int
  d : Int
  e : Int
structure V5.Ok (x : V5) : Prop where
  a : by8 x.a
  b : by8 x.b
  c : by8 x.c
  d : by8 x.d
  e : by8 x.e
def v5A (x : V5) : List AV := [.v (.int .u8 x.a), .v (.int .u8 x.b), .v (.int .u8 x.c), .v (.int .u8 x.d), .v (.int .u8 x.e)]
theorem fit_5 {ds : List DV} (h : FitL [.int .u8, .int .u8, .int .u8, .int .u8, .int .u8] ds) : ∃ x : V5, x.Ok ∧ ds.map ofD = v5A x := by
  obtain ⟨a0, _, rfl, b0, h⟩ := fit_int h
  obtain ⟨a1, _, rfl, b1, h⟩ := fit_int h
  obtain ⟨a2, _, rfl, b2, h⟩ := fit_int h
  obtain ⟨a3, _, rfl, b3, h⟩ := fit_int h
  obtain ⟨a4, _, rfl, b4, h⟩ := fit_int h
  obtain rfl := fit_nil h
  exact ⟨⟨a0, a1, a2, a3, a4⟩, ⟨fit_u8 b0, fit_u8 b1, fit_u8 b2, fit_u8 b3, fit_u8 b4⟩, rfl⟩
theorem fans_spec (x : V5) (l : List Int) (hx : x.Ok) (hl : ∀ n ∈ l, w16 n) : SpecF Try.prog 3 [.agg (v5A x), .sl 1 (l.map u16R)] (.v (.bool true)) [] := fans_law x.a x.b x.c x.d x.e l hx.a hx.b hx.c hx.d hx.e hl
end Go.Proofs.Ytnalabgckndhoaa.Ab.TF
