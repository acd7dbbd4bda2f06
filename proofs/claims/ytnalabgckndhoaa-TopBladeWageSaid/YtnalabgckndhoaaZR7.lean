/- The reference: a blade's error. The reference: a blade in the worst of all truths; whether a stick is sound. -/
import Derived.Test.YtnalabgckndhoaaZR3
namespace Go.Proofs.Ytnalabgckndhoaa.Ab.T01
open Go Go.RowKit
set_option linter.unusedSimpArgs false
set_option linter.unusedVariables false
set_option maxRecDepth 100000
theorem bent_nil {l : List Sp} {bend : Int} (hok : Okl l) (h0 : l.length ≠ 0) : ((((bentS bend l).getD []).length : Int) == 0) = (bentS bend l).isNone := by
  cases h : bentS bend l with
  | none => rfl
  | some R =>
    have := (bentS_ok hok h).2
    show ((R.length : Int) == 0) = false
    rw [this]
    exact beq_eq_false_iff_ne.2 (by omega)
def crkOk2 (c : Crk) (n : Int) : Bool := isSpan c.col 0 (n - 1) && !decide (c.col.2 - c.col.1 > 4) && isSpan c.frm 0 300 && isSpan c.to 0 300 && !decide (c.frm.2 > c.to.1)
theorem crkOk2_eq (c : Crk) (n : Int) : crkOk2 c n = isCrack c n := by
  unfold crkOk2 isCrack isEdges isHeight
  rw [Bool.eq_iff_iff]
  cases isSpan c.col 0 (n - 1) <;> cases isSpan c.frm 0 300 <;> cases isSpan c.to 0 300 <;> simp <;> omega
end Go.Proofs.Ytnalabgckndhoaa.Ab.T01
namespace Go.Proofs.Ytnalabgckndhoaa.Ab.T01
open Go Go.RowKit
set_option linter.unusedSimpArgs false
set_option linter.unusedVariables false
set_option maxRecDepth 100000
/-- What is spoilt, as the reference keeps it. -/
def refR (s : Spo) : List DV := [.v (.int .i64 s.col.1), .v (.int .i64 s.col.2), .v (.int .i64 s.ht.1), .v (.int .i64 s.ht.1), .v (.int .i64 s.ht.2), .v (.int .i64 s.ht.2)]
/-- A view, as the reference keeps it. -/
def refV (v : Vw) : AV := .agg [.sl 1 (v.bottom.map iR), .sl 1 (v.top.map iR), .sl 6 (v.spoils.map refR)]
theorem take_map {α β : Type} (f : α → β) (l : List α) (i : Nat) : (l.map f).take i = (l.take i).map f := by rw [List.map_take]
/-- Does the column leave a stick sound? -/
def colOk (v : Vw) (wide y : Int) (c : Nat) : Bool := decide (nth v.bottom c ≤ y) && decide (y + wide ≤ nth v.top c) && v.spoils.all fun s => !(betw s.col.1 s.col.2 [(c : Int)] && decide (s.ht.2 > y) && decide (s.ht.1 < y + wide))
def refSound (v : Vw) (long : Nat) (wide : Int) (x : Nat) (y : Int) : Bool := (List.range long).all fun d => colOk v wide y (x + d)
theorem refSound_bad {v : Vw} {long : Nat} {wide : Int} {x : Nat} {y : Int} {d : Nat} (hd : d < long) (h : colOk v wide y (x + d) = false) : refSound v long wide x y = false := by
  unfold refSound
  rw [List.all_eq_false]
  exact ⟨d, List.mem_range.2 hd, by rw [h]; simp⟩
end Go.Proofs.Ytnalabgckndhoaa.Ab.T01
