/- The document's examples, as the law calls them. The document's examples: all of them are as the document says. -/
import Derived.Test.YtciegkpjenjaeaaDoorZT12
import Derived.Laws.StructEq
namespace Go.Proofs.YtciegkpjenjaeaaDoor.Ab.T01
open Go Go.RowKit
set_option linter.unusedVariables false
set_option linter.unusedSimpArgs false
set_option maxRecDepth 100000
theorem kinds_two {xs : List Value} {k k' : IntKind} {z z' : Int} (h : kindsOk xs [.int k z, .int k' z'] = true) : ∃ a b, xs = [.int k a, .int k' b] := by
  match xs, h with
  | [x, y], h =>
    simp only [kindsOk, Bool.and_eq_true, Bool.and_true] at h
    cases x <;> simp [sameKind] at h
    cases y <;> simp [sameKind] at h
    obtain ⟨rfl, rfl⟩ := h
    exact ⟨_, _, rfl⟩
  | [], h => simp [kindsOk] at h
  | [_], h => simp [kindsOk] at h
  | _ :: _ :: _ :: _, h => simp [kindsOk] at h
def eqs : TypeId → Option (List Value) := fun t => if t = 50 then some [.int .i64 0, .int .i64 0] else if t = 59 then some [.int .i64 0, .int .i64 0, .int .i64 0, .int .i64 0, .int .i64 0, .int .i64 0] else if t = 96 then some [.int .i64 0, .int .i64 0] else none
instance : DecidableEq Crk := fun a b => decidable_of_iff (a.col = b.col ∧ a.frm = b.frm ∧ a.to = b.to) ⟨fun ⟨h1, h2, h3⟩ => by cases a; cases b; simp_all, fun h => by subst h; exact ⟨rfl, rfl, rfl⟩⟩
end Go.Proofs.YtciegkpjenjaeaaDoor.Ab.T01
namespace Go.Proofs.YtciegkpjenjaeaaDoor.Ab.T01
open Go Go.RowKit
set_option linter.unusedVariables false
set_option linter.unusedSimpArgs false
set_option maxRecDepth 100000
end Go.Proofs.YtciegkpjenjaeaaDoor.Ab.T01
