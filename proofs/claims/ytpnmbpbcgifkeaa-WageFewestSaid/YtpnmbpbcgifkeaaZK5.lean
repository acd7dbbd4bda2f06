/- The ways: the document's, as a list. -/
import Derived.Test.YtpnmbpbcgifkeaaZK4
namespace Go.Proofs.Ytpnmbpbcgifkeaa.Ab.T12
open Go Go.RowKit
set_option linter.unusedVariables false
set_option linter.unusedSimpArgs false
set_option maxRecDepth 100000
/-- In how many ways lines can be chosen, or none: one. -/
def prodL : List Ln → Nat
  | [] => 1
  | l :: ls => max 1 (allL l).length * prodL ls
theorem prodL_pos : ∀ ls, 1 ≤ prodL ls
  | [] => Nat.le_refl _
  | l :: ls => by
    have h := prodL_pos ls
    have : 1 * 1 ≤ max 1 (allL l).length * prodL ls := Nat.mul_le_mul (by omega) h
    simp only [prodL]
    omega
theorem prodL_app : ∀ a b, prodL (a ++ b) = prodL a * prodL b
  | [], b => by simp [prodL]
  | l :: a, b => by simp only [List.cons_append, prodL, prodL_app a b, Nat.mul_assoc]
def oneL (l : Ln) : Nat := max 1 (allL l).length
theorem prodL_take {l : List Ln} {i : Nat} (h : i < l.length) : prodL (l.take (i + 1)) = prodL (l.take i) * oneL (nth l i) := by
  have e : l.take (i + 1) = l.take i ++ [nth l i] := by
    have := nth_eq h
    rw [List.take_add_one, this]
    rfl
  rw [e, prodL_app]
  simp [prodL, oneL]
theorem prodL_split (l : List Ln) (i : Nat) : prodL (l.take i) * prodL (l.drop i) = prodL l := by rw [← prodL_app, List.take_append_drop]
theorem prodL_drop_le (l : List Ln) (i : Nat) : prodL (l.drop i) ≤ prodL l := by
  have h := prodL_split l i
  have h1 := prodL_pos (l.take i)
  have : 1 * prodL (l.drop i) ≤ prodL (l.take i) * prodL (l.drop i) := Nat.mul_le_mul_right _ h1
  omega
theorem prodL_take_le (l : List Ln) (i : Nat) : prodL (l.take i) ≤ prodL l := by
  have h := prodL_split l i
  have h1 := prodL_pos (l.drop i)
  have : prodL (l.take i) * 1 ≤ prodL (l.take i) * prodL (l.drop i) := Nat.mul_le_mul_left _ h1
  omega
/-- All right bills, the first lines of which are chosen. -/
def waysL (tot : Int) : List Ln → List Ln → List Bl
  | [], now => if tot ≠ -1 ∧ tot ≠ sumA now now.length then [] else [⟨now, sumA now now.length⟩]
  | l :: ls, now => (allL l).flatMap fun x => waysL tot ls (now ++ [x])
theorem flat_len {α β : Type} {f : α → List β} {k : Nat} : ∀ {l : List α}, (∀ x ∈ l, (f x).length ≤ k) → (l.flatMap f).length ≤ l.length * k
  | [], _ => by simp
  | a :: l, h => by
    have h1 := flat_len (f := f) (l := l) fun x hx => h x (by simp [hx])
    have h2 := h a (by simp)
    rw [List.flatMap_cons, List.length_append, List.length_cons, Nat.add_mul]
    omega
theorem waysL_len (tot : Int) : ∀ ls now, (waysL tot ls now).length ≤ prodL ls
  | [], now => by unfold waysL; split <;> simp [prodL]
  | l :: ls, now => by
    have h := flat_len (f := fun x => waysL tot ls (now ++ [x])) (l := allL l) (k := prodL ls) fun x _ => waysL_len tot ls _
    have : (allL l).length * prodL ls ≤ max 1 (allL l).length * prodL ls := Nat.mul_le_mul_right _ (by omega)
    simp only [waysL, prodL]
    omega
def waysT (tot : Int) (L : List Ln) (ls now : List Ln) (i : Nat) : List Bl := (L.take i).flatMap fun x => waysL tot ls (now ++ [x])
theorem waysT_succ {tot : Int} {L ls now : List Ln} {i : Nat} (h : i < L.length) : waysT tot L ls now (i + 1) = waysT tot L ls now i ++ waysL tot ls (now ++ [nth L i]) := by
  have e : L.take (i + 1) = L.take i ++ [nth L i] := by
    have := nth_eq h
    rw [List.take_add_one, this]
    rfl
  unfold waysT
  rw [e, List.flatMap_append]
  simp
def blR (b : Bl) : List DV := [.sl 3 (b.lines.map lnR), .v (.int .i64 b.total)]
end Go.Proofs.Ytpnmbpbcgifkeaa.Ab.T12
