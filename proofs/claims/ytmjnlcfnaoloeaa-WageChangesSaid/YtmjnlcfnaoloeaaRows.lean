/-
  No cell of these rows narrows 'for every input' (looked for: loops, veiled, ifaces, maps, wideKeys, modest, calm, conditions, laid).
  DERIVED. THE GIVEN ROWS OF THIS SEAT. 7 by the template 'for every input the law returns true; each argument reads behind the call as it read before'; 0 by the template 'total and deterministic' (their statements: YtmjnlcfnaoloeaaTotals.lean).
  GIVEN WITH THE SEED: the statements are not yours to turn. If you find one false, say at which input.
  Laid BY PROGRAM, IN A SANDBOX (cutbox-rows.mjs): the forced cells as the released guide's own fill.sh prints them over the translation 4ea7b675742e20a0… (all of the seat's roots in one cut). By AI agents, Wed Nov 11 2026. No macro, syntax, notation, axiom, sorry.
-/
import Derived.Test.YtmjnlcfnaoloeaaChecked
import GoSem.Claim
import GoSem.ClaimJoined
import GoSem.ClaimMapViews
import Derived.JoinedTies
import Derived.KernelRfl
namespace Go.Proofs.Ytmjnlcfnaoloeaa
/- THE CELL 'sum', in the pinned program and in every row, IS THE sha256 OF THE DUMP (.gsa) THAT YtmjnlcfnaoloeaaProg.lean LOADS. Nothing in Lean hashes anything: it is a label: what it is worth is what the hold of that sum in a sandbox is worth. -/
noncomputable def Try.pinned : Pinned := { name := "ytmjnlcfnaoloeaa", sum := "4ea7b675742e20a0ea014d8262d4aa0fa9d85825157b32340ed6114c08be1e8f", checked := Try.checked }
namespace Rows
def none {H : Type} : Left H := { results := [], args := [] }

/-- 'panachelaw12.WageEarns': WHATEVER THE INPUT: true; the input reads as it did. -/
def wageEarnsSpec : ChangeSpec := { name := "wageEarns", fn := fun _ => fun
  | [d1, d2] => { results := [.lit (.bool true)], args := [d1, d2] }
  | _ => none }
def wageEarnsRow : OpenClaim := { program := "ytmjnlcfnaoloeaa", sum := "4ea7b675742e20a0ea014d8262d4aa0fa9d85825157b32340ed6114c08be1e8f", func := "panache/panachelaw12.WageEarns", spec := "wageEarns", unfollowed := true, recurses := true, apart := false }
def WageEarnsSaid : Prop := wageEarnsRow.holds Try.pinned (OpenSpec.ofChange wageEarnsSpec)

/-- ITS FALSE NEIGHBOUR: 'it returns false'. Refute it at one input. -/
def wageEarnsWrong : ChangeSpec := { name := "wageEarns", fn := fun _ => fun
  | [d1, d2] => { results := [.lit (.bool false)], args := [d1, d2] }
  | _ => none }
def WageEarnsWrongFalsely : Prop := wageEarnsRow.holds Try.pinned (OpenSpec.ofChange wageEarnsWrong)

/-- 'panachelaw12.WageMakes': WHATEVER THE INPUT: true; the input reads as it did. -/
def wageMakesSpec : ChangeSpec := { name := "wageMakes", fn := fun _ => fun
  | [d1, d2, d3] => { results := [.lit (.bool true)], args := [d1, d2, d3] }
  | _ => none }
def wageMakesRow : OpenClaim := { program := "ytmjnlcfnaoloeaa", sum := "4ea7b675742e20a0ea014d8262d4aa0fa9d85825157b32340ed6114c08be1e8f", func := "panache/panachelaw12.WageMakes", spec := "wageMakes", unfollowed := true, recurses := true, apart := false }
def WageMakesSaid : Prop := wageMakesRow.holds Try.pinned (OpenSpec.ofChange wageMakesSpec)

/-- ITS FALSE NEIGHBOUR: 'it returns false'. Refute it at one input. -/
def wageMakesWrong : ChangeSpec := { name := "wageMakes", fn := fun _ => fun
  | [d1, d2, d3] => { results := [.lit (.bool false)], args := [d1, d2, d3] }
  | _ => none }
def WageMakesWrongFalsely : Prop := wageMakesRow.holds Try.pinned (OpenSpec.ofChange wageMakesWrong)

/-- 'panachelaw12.WageShares': WHATEVER THE INPUT: true; the input reads as it did. -/
def wageSharesSpec : ChangeSpec := { name := "wageShares", fn := fun _ => fun
  | [d1, d2] => { results := [.lit (.bool true)], args := [d1, d2] }
  | _ => none }
def wageSharesRow : OpenClaim := { program := "ytmjnlcfnaoloeaa", sum := "4ea7b675742e20a0ea014d8262d4aa0fa9d85825157b32340ed6114c08be1e8f", func := "panache/panachelaw12.WageShares", spec := "wageShares", unfollowed := true, recurses := true, apart := false }
def WageSharesSaid : Prop := wageSharesRow.holds Try.pinned (OpenSpec.ofChange wageSharesSpec)

/-- ITS FALSE NEIGHBOUR: 'it returns false'. Refute it at one input. -/
def wageSharesWrong : ChangeSpec := { name := "wageShares", fn := fun _ => fun
  | [d1, d2] => { results := [.lit (.bool false)], args := [d1, d2] }
  | _ => none }
def WageSharesWrongFalsely : Prop := wageSharesRow.holds Try.pinned (OpenSpec.ofChange wageSharesWrong)

/-- 'panachelaw12.WageSlips': WHATEVER THE INPUT: true; the input reads as it did. -/
def wageSlipsSpec : ChangeSpec := { name := "wageSlips", fn := fun _ => fun
  | [d] => { results := [.lit (.bool true)], args := [d] }
  | _ => none }
def wageSlipsRow : OpenClaim := { program := "ytmjnlcfnaoloeaa", sum := "4ea7b675742e20a0ea014d8262d4aa0fa9d85825157b32340ed6114c08be1e8f", func := "panache/panachelaw12.WageSlips", spec := "wageSlips", unfollowed := true, recurses := true, apart := false }
def WageSlipsSaid : Prop := wageSlipsRow.holds Try.pinned (OpenSpec.ofChange wageSlipsSpec)

/-- ITS FALSE NEIGHBOUR: 'it returns false'. Refute it at one input. -/
def wageSlipsWrong : ChangeSpec := { name := "wageSlips", fn := fun _ => fun
  | [d] => { results := [.lit (.bool false)], args := [d] }
  | _ => none }
def WageSlipsWrongFalsely : Prop := wageSlipsRow.holds Try.pinned (OpenSpec.ofChange wageSlipsWrong)

/-- 'panachelaw12.WageFills': WHATEVER THE INPUT: true; the input reads as it did. -/
def wageFillsSpec : ChangeSpec := { name := "wageFills", fn := fun _ => fun
  | [d] => { results := [.lit (.bool true)], args := [d] }
  | _ => none }
def wageFillsRow : OpenClaim := { program := "ytmjnlcfnaoloeaa", sum := "4ea7b675742e20a0ea014d8262d4aa0fa9d85825157b32340ed6114c08be1e8f", func := "panache/panachelaw12.WageFills", spec := "wageFills", unfollowed := true, recurses := true, apart := false }
def WageFillsSaid : Prop := wageFillsRow.holds Try.pinned (OpenSpec.ofChange wageFillsSpec)

/-- ITS FALSE NEIGHBOUR: 'it returns false'. Refute it at one input. -/
def wageFillsWrong : ChangeSpec := { name := "wageFills", fn := fun _ => fun
  | [d] => { results := [.lit (.bool false)], args := [d] }
  | _ => none }
def WageFillsWrongFalsely : Prop := wageFillsRow.holds Try.pinned (OpenSpec.ofChange wageFillsWrong)

/-- 'panachelaw12.WageChanges': WHATEVER THE INPUT: true; the input reads as it did. -/
def wageChangesSpec : ChangeSpec := { name := "wageChanges", fn := fun _ => fun
  | [d] => { results := [.lit (.bool true)], args := [d] }
  | _ => none }
def wageChangesRow : OpenClaim := { program := "ytmjnlcfnaoloeaa", sum := "4ea7b675742e20a0ea014d8262d4aa0fa9d85825157b32340ed6114c08be1e8f", func := "panache/panachelaw12.WageChanges", spec := "wageChanges", unfollowed := true, recurses := true, apart := false }
def WageChangesSaid : Prop := wageChangesRow.holds Try.pinned (OpenSpec.ofChange wageChangesSpec)

/-- ITS FALSE NEIGHBOUR: 'it returns false'. Refute it at one input. -/
def wageChangesWrong : ChangeSpec := { name := "wageChanges", fn := fun _ => fun
  | [d] => { results := [.lit (.bool false)], args := [d] }
  | _ => none }
def WageChangesWrongFalsely : Prop := wageChangesRow.holds Try.pinned (OpenSpec.ofChange wageChangesWrong)

/-- 'panachelaw12.WagePays': WHATEVER THE INPUT: true; the input reads as it did. -/
def wagePaysSpec : ChangeSpec := { name := "wagePays", fn := fun _ => fun
  | [d1, d2] => { results := [.lit (.bool true)], args := [d1, d2] }
  | _ => none }
def wagePaysRow : OpenClaim := { program := "ytmjnlcfnaoloeaa", sum := "4ea7b675742e20a0ea014d8262d4aa0fa9d85825157b32340ed6114c08be1e8f", func := "panache/panachelaw12.WagePays", spec := "wagePays", unfollowed := true, recurses := true, apart := false }
def WagePaysSaid : Prop := wagePaysRow.holds Try.pinned (OpenSpec.ofChange wagePaysSpec)

/-- ITS FALSE NEIGHBOUR: 'it returns false'. Refute it at one input. -/
def wagePaysWrong : ChangeSpec := { name := "wagePays", fn := fun _ => fun
  | [d1, d2] => { results := [.lit (.bool false)], args := [d1, d2] }
  | _ => none }
def WagePaysWrongFalsely : Prop := wagePaysRow.holds Try.pinned (OpenSpec.ofChange wagePaysWrong)

/- THE SECOND FORM. 'bulk': how many values and letters a reading holds, each counted each time it is reached (what is shared counts as often as it is met; a slice's spare places count too). A statement '..UptoSaid' is the law's where the arguments, and the package variables that the reading takes, are together of bulk at most 1048576: NARROWER than '..Said'. Prove '..Said' where nothing that the law and all that it calls make is longer than what came in: it says more and counts as full. Else prove '..UptoSaid'. A law counts once. -/
mutual
def uptoBulk {H : Type} : DataW H → Nat
  | .lit (.string bytes) => bytes.length + 1
  | .lit _ => 1
  | .nil => 1
  | .ptr d => uptoBulk d + 1
  | .slice elems spare => uptoBulkAll elems + uptoBulkAll spare + 1
  | .agg parts => uptoBulkAll parts + 1
  | .iface _ d => uptoBulk d + 1
  | .map entries => uptoBulkEntries entries + 1
  | .held _ => 1
def uptoBulkAll {H : Type} : List (DataW H) → Nat
  | [] => 0
  | d :: r => uptoBulk d + uptoBulkAll r
def uptoBulkEntries {H : Type} : List (Lit × DataW H) → Nat
  | [] => 0
  | x :: r => uptoBulkEntry x + uptoBulkEntries r
def uptoBulkEntry {H : Type} : Lit × DataW H → Nat
  | (.string bytes, d) => bytes.length + uptoBulk d + 1
  | (_, d) => uptoBulk d + 1
 end
def uptoSmall : (H : Type) → List (DataW H) → Bool := fun _ ds => decide (uptoBulkAll ds ≤ 1048576)
def OpenSpec.upto (s : _root_.Go.ChangeSpec) : _root_.Go.OpenSpec := { _root_.Go.OpenSpec.ofChange s with cond := some uptoSmall }

/-- 'panachelaw12.WageEarns', WHERE WHAT IT READS IS OF BULK AT MOST 1048576: true; the input reads as it did. -/
def wageEarnsUptoRow : OpenClaim := { program := "ytmjnlcfnaoloeaa", sum := "4ea7b675742e20a0ea014d8262d4aa0fa9d85825157b32340ed6114c08be1e8f", func := "panache/panachelaw12.WageEarns", spec := "wageEarns", unfollowed := true, recurses := true, apart := false, narrowed := true }
def WageEarnsUptoSaid : Prop := wageEarnsUptoRow.holds Try.pinned (OpenSpec.upto wageEarnsSpec)

/-- 'panachelaw12.WageMakes', WHERE WHAT IT READS IS OF BULK AT MOST 1048576: true; the input reads as it did. -/
def wageMakesUptoRow : OpenClaim := { program := "ytmjnlcfnaoloeaa", sum := "4ea7b675742e20a0ea014d8262d4aa0fa9d85825157b32340ed6114c08be1e8f", func := "panache/panachelaw12.WageMakes", spec := "wageMakes", unfollowed := true, recurses := true, apart := false, narrowed := true }
def WageMakesUptoSaid : Prop := wageMakesUptoRow.holds Try.pinned (OpenSpec.upto wageMakesSpec)

/-- 'panachelaw12.WageShares', WHERE WHAT IT READS IS OF BULK AT MOST 1048576: true; the input reads as it did. -/
def wageSharesUptoRow : OpenClaim := { program := "ytmjnlcfnaoloeaa", sum := "4ea7b675742e20a0ea014d8262d4aa0fa9d85825157b32340ed6114c08be1e8f", func := "panache/panachelaw12.WageShares", spec := "wageShares", unfollowed := true, recurses := true, apart := false, narrowed := true }
def WageSharesUptoSaid : Prop := wageSharesUptoRow.holds Try.pinned (OpenSpec.upto wageSharesSpec)

/-- 'panachelaw12.WageSlips', WHERE WHAT IT READS IS OF BULK AT MOST 1048576: true; the input reads as it did. -/
def wageSlipsUptoRow : OpenClaim := { program := "ytmjnlcfnaoloeaa", sum := "4ea7b675742e20a0ea014d8262d4aa0fa9d85825157b32340ed6114c08be1e8f", func := "panache/panachelaw12.WageSlips", spec := "wageSlips", unfollowed := true, recurses := true, apart := false, narrowed := true }
def WageSlipsUptoSaid : Prop := wageSlipsUptoRow.holds Try.pinned (OpenSpec.upto wageSlipsSpec)

/-- 'panachelaw12.WageFills', WHERE WHAT IT READS IS OF BULK AT MOST 1048576: true; the input reads as it did. -/
def wageFillsUptoRow : OpenClaim := { program := "ytmjnlcfnaoloeaa", sum := "4ea7b675742e20a0ea014d8262d4aa0fa9d85825157b32340ed6114c08be1e8f", func := "panache/panachelaw12.WageFills", spec := "wageFills", unfollowed := true, recurses := true, apart := false, narrowed := true }
def WageFillsUptoSaid : Prop := wageFillsUptoRow.holds Try.pinned (OpenSpec.upto wageFillsSpec)

/-- 'panachelaw12.WageChanges', WHERE WHAT IT READS IS OF BULK AT MOST 1048576: true; the input reads as it did. -/
def wageChangesUptoRow : OpenClaim := { program := "ytmjnlcfnaoloeaa", sum := "4ea7b675742e20a0ea014d8262d4aa0fa9d85825157b32340ed6114c08be1e8f", func := "panache/panachelaw12.WageChanges", spec := "wageChanges", unfollowed := true, recurses := true, apart := false, narrowed := true }
def WageChangesUptoSaid : Prop := wageChangesUptoRow.holds Try.pinned (OpenSpec.upto wageChangesSpec)

/-- 'panachelaw12.WagePays', WHERE WHAT IT READS IS OF BULK AT MOST 1048576: true; the input reads as it did. -/
def wagePaysUptoRow : OpenClaim := { program := "ytmjnlcfnaoloeaa", sum := "4ea7b675742e20a0ea014d8262d4aa0fa9d85825157b32340ed6114c08be1e8f", func := "panache/panachelaw12.WagePays", spec := "wagePays", unfollowed := true, recurses := true, apart := false, narrowed := true }
def WagePaysUptoSaid : Prop := wagePaysUptoRow.holds Try.pinned (OpenSpec.upto wagePaysSpec)

end Rows
end Go.Proofs.Ytmjnlcfnaoloeaa
