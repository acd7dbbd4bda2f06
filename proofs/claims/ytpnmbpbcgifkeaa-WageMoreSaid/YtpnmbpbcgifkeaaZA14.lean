/- The arguments of WageMore: a rate in bytes, short numbers. -/
import Derived.Test.YtpnmbpbcgifkeaaZL7
import Derived.Test.YtpnmbpbcgifkeaaZAbS
namespace Go.Proofs.Ytpnmbpbcgifkeaa.Ab.T12
open Go Go.RowKit
set_option linter.unusedSimpArgs false
set_option linter.unusedVariables false
theorem fit_sliceM {row l : List Cl} {ds : List DV} (h : FitL (.slice row :: l) ds) : ∃ rows ds', ds = .sl row.length rows :: ds' ∧ (∀ r ∈ rows, FitL row r) ∧ FitL l ds' := by
  cases ds with
  | nil => exact h.elim
  | cons d ds =>
    obtain ⟨h1, h2⟩ := h
    cases d with
    | v => exact h1.elim
    | sl sz rows =>
      obtain ⟨rfl, _, h3⟩ := h1
      exact ⟨rows, ds, rfl, h3, h2⟩
theorem rows_okM {α : Type} {row : List Cl} (f : α → List DV) {P : α → Prop} (hf : ∀ r, FitL row r → ∃ x, r = f x ∧ P x) : ∀ {rows : List (List DV)}, (∀ r ∈ rows, FitL row r) → ∃ L : List α, rows = L.map f ∧ ∀ x ∈ L, P x
  | [], _ => ⟨[], rfl, fun _ h => by simp at h⟩
  | r :: rows, h => by
    obtain ⟨x, rfl, hx⟩ := hf r (h r (by simp))
    obtain ⟨L, rfl, hL⟩ := rows_okM f hf (rows := rows) fun r hr => h r (by simp [hr])
    exact ⟨x :: L, rfl, fun y hy => by
      rcases List.mem_cons.1 hy with rfl | hy
      · exact hx
      · exact hL y hy⟩
theorem fit_b2 (r : List DV) (h : FitL [.int .u8, .int .u8] r) : ∃ c : Int × Int, r = stR c ∧ By2 c := by
  obtain ⟨a0, _, rfl, b0, h⟩ := fit_int h
  obtain ⟨a1, _, rfl, b1, h⟩ := fit_int h
  obtain rfl := fit_nil h
  exact ⟨(a0, a1), rfl, fit_u8 b0, fit_u8 b1⟩
structure PayX where
  l : List (Int × Int)
  p : Int
  f : Int
structure PayX.Ok (x : PayX) : Prop where
  l : ∀ s ∈ x.l, By2 s
  p : 0 ≤ x.p ∧ x.p < 256
  f : 0 ≤ x.f ∧ x.f < 256
theorem fit_pay {ds : List DV} (h : FitL [.slice [.int .u8, .int .u8], .int .u8, .int .u8] ds) : ∃ x : PayX, x.Ok ∧ ds.map ofD = [.sl 2 (x.l.map stR), .v (.int .u8 x.p), .v (.int .u8 x.f)] := by
  obtain ⟨r0, _, rfl, g0, h⟩ := fit_sliceM h
  obtain ⟨a1, _, rfl, b1, h⟩ := fit_int h
  obtain ⟨a2, _, rfl, b2, h⟩ := fit_int h
  obtain rfl := fit_nil h
  obtain ⟨L0, rfl, h0⟩ := rows_okM stR fit_b2 g0
  exact ⟨⟨L0, a1, a2⟩, ⟨h0, fit_u8 b1, fit_u8 b2⟩, rfl⟩
structure W3 where
  a : Int
  b : Int
  c : Int
structure W3.Ok (x : W3) : Prop where
  a : 0 ≤ x.a ∧ x.a < 65536
  b : 0 ≤ x.b ∧ x.b < 65536
  c : 0 ≤ x.c ∧ x.c < 65536
theorem fit_3w {ds : List DV} (h : FitL [.int .u16, .int .u16, .int .u16] ds) : ∃ c : W3, c.Ok ∧ ds.map ofD = [.v (.int .u16 c.a), .v (.int .u16 c.b), .v (.int .u16 c.c)] := by
  obtain ⟨a0, _, rfl, b0, h⟩ := fit_int h
  obtain ⟨a1, _, rfl, b1, h⟩ := fit_int h
  obtain ⟨a2, _, rfl, b2, h⟩ := fit_int h
  obtain rfl := fit_nil h
  exact ⟨⟨a0, a1, a2⟩, ⟨fit_u16 b0, fit_u16 b1, fit_u16 b2⟩, rfl⟩
theorem moreL_spec (x : PayX) (v : W3) (hx : x.Ok) (hv : v.Ok) : SpecF Try.prog 3 [.agg [.sl 2 (x.l.map stR), .v (.int .u8 x.p), .v (.int .u8 x.f)], .agg [.v (.int .u16 v.a), .v (.int .u16 v.b), .v (.int .u16 v.c)]] (.v (.bool true)) [] := more_spec x.l x.p x.f v.a v.b v.c hx.l hx.p hx.f hv.a hv.b hv.c
end Go.Proofs.Ytpnmbpbcgifkeaa.Ab.T12
