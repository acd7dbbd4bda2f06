/- The arguments of the plain laws about wages: bytes and short numbers. -/
import Derived.Test.YtpnmbpbcgifkeaaZL3
import Derived.Test.YtpnmbpbcgifkeaaZAbS
namespace Go.Proofs.Ytpnmbpbcgifkeaa.Ab.T12
open Go Go.RowKit
set_option linter.unusedSimpArgs false
set_option linter.unusedVariables false
theorem rows_ok {α : Type} {row : List Cl} (f : α → List DV) {P : α → Prop} (hf : ∀ r, FitL row r → ∃ x, r = f x ∧ P x) : ∀ {rows : List (List DV)}, (∀ r ∈ rows, FitL row r) → ∃ L : List α, rows = L.map f ∧ ∀ x ∈ L, P x
  | [], _ => ⟨[], rfl, fun _ h => by simp at h⟩
  | r :: rows, h => by
    obtain ⟨x, rfl, hx⟩ := hf r (h r (by simp))
    obtain ⟨L, rfl, hL⟩ := rows_ok f hf (rows := rows) fun r hr => h r (by simp [hr])
    exact ⟨x :: L, rfl, fun y hy => by
      rcases List.mem_cons.1 hy with rfl | hy
      · exact hx
      · exact hL y hy⟩
theorem fit_by (r : List DV) (h : FitL [.int .u8] r) : ∃ c : Int, r = u8R c ∧ By c := by
  obtain ⟨a0, _, rfl, b0, h⟩ := fit_int h
  obtain rfl := fit_nil h
  exact ⟨a0, rfl, fit_u8 b0⟩
structure C3 where
  a : Int
  b : Int
  c : Int
structure C3.Ok (x : C3) : Prop where
  a : By x.a
  b : By x.b
  c : By x.c
theorem fit_3 {ds : List DV} (h : FitL [.int .u8, .int .u8, .int .u8] ds) : ∃ c : C3, c.Ok ∧ ds.map ofD = [.v (.int .u8 c.a), .v (.int .u8 c.b), .v (.int .u8 c.c)] := by
  obtain ⟨a0, _, rfl, b0, h⟩ := fit_int h
  obtain ⟨a1, _, rfl, b1, h⟩ := fit_int h
  obtain ⟨a2, _, rfl, b2, h⟩ := fit_int h
  obtain rfl := fit_nil h
  exact ⟨⟨a0, a1, a2⟩, ⟨fit_u8 b0, fit_u8 b1, fit_u8 b2⟩, rfl⟩
theorem u8_arg {P : Program} {w : World} {r : Reach} {base : Nat} {t : TypeId} {v : Value} (ht : P.underlying t = some (.int .u8)) (h : Value.okWide P w r base t v) : ∃ n, v = .int .u8 n ∧ By n := by
  simp only [Value.okWide, ht, Cell.okWide] at h
  unfold By
  cases v <;> simp_all [Cell.ok, IntKind.has, IntKind.min, IntKind.max, IntKind.signed, IntKind.bits]
  omega
theorem u16_arg {P : Program} {w : World} {r : Reach} {base : Nat} {t : TypeId} {v : Value} (ht : P.underlying t = some (.int .u16)) (h : Value.okWide P w r base t v) : ∃ n, v = .int .u16 n ∧ (0 ≤ n ∧ n < 65536) := by
  simp only [Value.okWide, ht, Cell.okWide] at h
  cases v <;> simp_all [Cell.ok, IntKind.has, IntKind.min, IntKind.max, IntKind.signed, IntKind.bits]
  omega
theorem fairL_spec (bs : List Int) (mo : Int) (x : C3) (hbs : ∀ n ∈ bs, By n) (hmo : 0 ≤ mo ∧ mo < 65536) (hx : x.Ok) : SpecF Try.prog 4 [.sl 1 (bs.map u8R), .v (.int .u16 mo), .agg [.v (.int .u8 x.a), .v (.int .u8 x.b), .v (.int .u8 x.c)]] (.v (.bool true)) [] := fair_spec bs mo x.a x.b x.c hbs hmo hx.a hx.b hx.c
end Go.Proofs.Ytpnmbpbcgifkeaa.Ab.T12
