/-
  No cell of these rows narrows 'for every input' (looked for: loops, veiled, ifaces, maps, wideKeys, modest, calm, conditions, laid).
  DERIVED. THE GIVEN ROWS OF THIS SEAT. 5 by the template 'for every input the law returns true; each argument reads behind the call as it read before'; 0 by the template 'total and deterministic' (their statements: YtninkfpeeemcoaaTotals.lean).
  GIVEN WITH THE SEED: the statements are not yours to turn. If you find one false, say at which input.
  Laid BY PROGRAM, IN A SANDBOX (cutbox-rows.mjs): the forced cells as the released guide's own fill.sh prints them over the translation 72995e8314557033… (all of the seat's roots in one cut). By AI agents, Wed Nov 11 2026. No macro, syntax, notation, axiom, sorry.
-/
import Derived.Test.YtninkfpeeemcoaaChecked
import GoSem.Claim
import GoSem.ClaimJoined
import GoSem.ClaimMapViews
import Derived.JoinedTies
import Derived.KernelRfl
namespace Go.Proofs.Ytninkfpeeemcoaa
/- THE CELL 'sum', in the pinned program and in every row, IS THE sha256 OF THE DUMP (.gsa) THAT YtninkfpeeemcoaaProg.lean LOADS. Nothing in Lean hashes anything: it is a label: what it is worth is what the hold of that sum in a sandbox is worth. -/
noncomputable def Try.pinned : Pinned := { name := "ytninkfpeeemcoaa", sum := "72995e8314557033dbe962ecafd1675dca9263f2e009e084e522b6544850bd52", checked := Try.checked }
namespace Rows
def none {H : Type} : Left H := { results := [], args := [] }

/-- 'panachelaw07.OutworkConserved': WHATEVER THE INPUT: true; the input reads as it did. -/
def outworkConservedSpec : ChangeSpec := { name := "outworkConserved", fn := fun _ => fun
  | [d1, d2, d3] => { results := [.lit (.bool true)], args := [d1, d2, d3] }
  | _ => none }
def outworkConservedRow : OpenClaim := { program := "ytninkfpeeemcoaa", sum := "72995e8314557033dbe962ecafd1675dca9263f2e009e084e522b6544850bd52", func := "panache/panachelaw07.OutworkConserved", spec := "outworkConserved", unfollowed := true, recurses := true, apart := false }
def OutworkConservedSaid : Prop := outworkConservedRow.holds Try.pinned (OpenSpec.ofChange outworkConservedSpec)

/-- ITS FALSE NEIGHBOUR: 'it returns false'. Refute it at one input. -/
def outworkConservedWrong : ChangeSpec := { name := "outworkConserved", fn := fun _ => fun
  | [d1, d2, d3] => { results := [.lit (.bool false)], args := [d1, d2, d3] }
  | _ => none }
def OutworkConservedWrongFalsely : Prop := outworkConservedRow.holds Try.pinned (OpenSpec.ofChange outworkConservedWrong)

/-- 'panachelaw07.OutworkEnough': WHATEVER THE INPUT: true; the input reads as it did. -/
def outworkEnoughSpec : ChangeSpec := { name := "outworkEnough", fn := fun _ => fun
  | [d1, d2, d3] => { results := [.lit (.bool true)], args := [d1, d2, d3] }
  | _ => none }
def outworkEnoughRow : OpenClaim := { program := "ytninkfpeeemcoaa", sum := "72995e8314557033dbe962ecafd1675dca9263f2e009e084e522b6544850bd52", func := "panache/panachelaw07.OutworkEnough", spec := "outworkEnough", unfollowed := true, recurses := true, apart := false }
def OutworkEnoughSaid : Prop := outworkEnoughRow.holds Try.pinned (OpenSpec.ofChange outworkEnoughSpec)

/-- ITS FALSE NEIGHBOUR: 'it returns false'. Refute it at one input. -/
def outworkEnoughWrong : ChangeSpec := { name := "outworkEnough", fn := fun _ => fun
  | [d1, d2, d3] => { results := [.lit (.bool false)], args := [d1, d2, d3] }
  | _ => none }
def OutworkEnoughWrongFalsely : Prop := outworkEnoughRow.holds Try.pinned (OpenSpec.ofChange outworkEnoughWrong)

/-- 'panachelaw07.OutworkFree': WHATEVER THE INPUT: true; the input reads as it did. -/
def outworkFreeSpec : ChangeSpec := { name := "outworkFree", fn := fun _ => fun
  | [d1, d2, d3] => { results := [.lit (.bool true)], args := [d1, d2, d3] }
  | _ => none }
def outworkFreeRow : OpenClaim := { program := "ytninkfpeeemcoaa", sum := "72995e8314557033dbe962ecafd1675dca9263f2e009e084e522b6544850bd52", func := "panache/panachelaw07.OutworkFree", spec := "outworkFree", unfollowed := true, recurses := true, apart := false }
def OutworkFreeSaid : Prop := outworkFreeRow.holds Try.pinned (OpenSpec.ofChange outworkFreeSpec)

/-- ITS FALSE NEIGHBOUR: 'it returns false'. Refute it at one input. -/
def outworkFreeWrong : ChangeSpec := { name := "outworkFree", fn := fun _ => fun
  | [d1, d2, d3] => { results := [.lit (.bool false)], args := [d1, d2, d3] }
  | _ => none }
def OutworkFreeWrongFalsely : Prop := outworkFreeRow.holds Try.pinned (OpenSpec.ofChange outworkFreeWrong)

/-- 'panachelaw07.OutworkBetter': WHATEVER THE INPUT: true; the input reads as it did. -/
def outworkBetterSpec : ChangeSpec := { name := "outworkBetter", fn := fun _ => fun
  | [d1, d2, d3] => { results := [.lit (.bool true)], args := [d1, d2, d3] }
  | _ => none }
def outworkBetterRow : OpenClaim := { program := "ytninkfpeeemcoaa", sum := "72995e8314557033dbe962ecafd1675dca9263f2e009e084e522b6544850bd52", func := "panache/panachelaw07.OutworkBetter", spec := "outworkBetter", unfollowed := true, recurses := true, apart := false }
def OutworkBetterSaid : Prop := outworkBetterRow.holds Try.pinned (OpenSpec.ofChange outworkBetterSpec)

/-- ITS FALSE NEIGHBOUR: 'it returns false'. Refute it at one input. -/
def outworkBetterWrong : ChangeSpec := { name := "outworkBetter", fn := fun _ => fun
  | [d1, d2, d3] => { results := [.lit (.bool false)], args := [d1, d2, d3] }
  | _ => none }
def OutworkBetterWrongFalsely : Prop := outworkBetterRow.holds Try.pinned (OpenSpec.ofChange outworkBetterWrong)

/-- 'panachelaw07.OutworkQuits': WHATEVER THE INPUT: true; the input reads as it did. -/
def outworkQuitsSpec : ChangeSpec := { name := "outworkQuits", fn := fun _ => fun
  | [d1, d2, d3] => { results := [.lit (.bool true)], args := [d1, d2, d3] }
  | _ => none }
def outworkQuitsRow : OpenClaim := { program := "ytninkfpeeemcoaa", sum := "72995e8314557033dbe962ecafd1675dca9263f2e009e084e522b6544850bd52", func := "panache/panachelaw07.OutworkQuits", spec := "outworkQuits", unfollowed := true, recurses := true, apart := false }
def OutworkQuitsSaid : Prop := outworkQuitsRow.holds Try.pinned (OpenSpec.ofChange outworkQuitsSpec)

/-- ITS FALSE NEIGHBOUR: 'it returns false'. Refute it at one input. -/
def outworkQuitsWrong : ChangeSpec := { name := "outworkQuits", fn := fun _ => fun
  | [d1, d2, d3] => { results := [.lit (.bool false)], args := [d1, d2, d3] }
  | _ => none }
def OutworkQuitsWrongFalsely : Prop := outworkQuitsRow.holds Try.pinned (OpenSpec.ofChange outworkQuitsWrong)

/- THE SECOND FORM. 'bulk': how many values and letters a reading holds, each counted each time it is reached (what is shared counts as often as it is met; a slice's spare places count too). A statement '..UptoSaid' is the law's where the arguments, and the package variables that the reading takes, are together of bulk at most 1048576: NARROWER than '..Said'. Prove '..Said' where nothing that the law and all that it calls make is longer than what came in: it says more and counts as full. Else prove '..UptoSaid'. A law counts once. -/
mutual
def uptoBulk {H : Type} : DataW H → Nat
  | .lit (.string bytes) => bytes.length + 1
  | .lit _ => 1
  | .nil => 1
  | .ptr d => uptoBulk d + 1
  | .slice elems spare => uptoBulkAll elems + uptoBulkAll spare + 1
  | .agg parts => uptoBulkAll parts + 1
  | .iface _ d => uptoBulk d + 1
  | .map entries => uptoBulkEntries entries + 1
  | .held _ => 1
def uptoBulkAll {H : Type} : List (DataW H) → Nat
  | [] => 0
  | d :: r => uptoBulk d + uptoBulkAll r
def uptoBulkEntries {H : Type} : List (Lit × DataW H) → Nat
  | [] => 0
  | x :: r => uptoBulkEntry x + uptoBulkEntries r
def uptoBulkEntry {H : Type} : Lit × DataW H → Nat
  | (.string bytes, d) => bytes.length + uptoBulk d + 1
  | (_, d) => uptoBulk d + 1
 end
def uptoSmall : (H : Type) → List (DataW H) → Bool := fun _ ds => decide (uptoBulkAll ds ≤ 1048576)
def OpenSpec.upto (s : _root_.Go.ChangeSpec) : _root_.Go.OpenSpec := { _root_.Go.OpenSpec.ofChange s with cond := some uptoSmall }

/-- 'panachelaw07.OutworkConserved', WHERE WHAT IT READS IS OF BULK AT MOST 1048576: true; the input reads as it did. -/
def outworkConservedUptoRow : OpenClaim := { program := "ytninkfpeeemcoaa", sum := "72995e8314557033dbe962ecafd1675dca9263f2e009e084e522b6544850bd52", func := "panache/panachelaw07.OutworkConserved", spec := "outworkConserved", unfollowed := true, recurses := true, apart := false, narrowed := true }
def OutworkConservedUptoSaid : Prop := outworkConservedUptoRow.holds Try.pinned (OpenSpec.upto outworkConservedSpec)

/-- 'panachelaw07.OutworkEnough', WHERE WHAT IT READS IS OF BULK AT MOST 1048576: true; the input reads as it did. -/
def outworkEnoughUptoRow : OpenClaim := { program := "ytninkfpeeemcoaa", sum := "72995e8314557033dbe962ecafd1675dca9263f2e009e084e522b6544850bd52", func := "panache/panachelaw07.OutworkEnough", spec := "outworkEnough", unfollowed := true, recurses := true, apart := false, narrowed := true }
def OutworkEnoughUptoSaid : Prop := outworkEnoughUptoRow.holds Try.pinned (OpenSpec.upto outworkEnoughSpec)

/-- 'panachelaw07.OutworkFree', WHERE WHAT IT READS IS OF BULK AT MOST 1048576: true; the input reads as it did. -/
def outworkFreeUptoRow : OpenClaim := { program := "ytninkfpeeemcoaa", sum := "72995e8314557033dbe962ecafd1675dca9263f2e009e084e522b6544850bd52", func := "panache/panachelaw07.OutworkFree", spec := "outworkFree", unfollowed := true, recurses := true, apart := false, narrowed := true }
def OutworkFreeUptoSaid : Prop := outworkFreeUptoRow.holds Try.pinned (OpenSpec.upto outworkFreeSpec)

/-- 'panachelaw07.OutworkBetter', WHERE WHAT IT READS IS OF BULK AT MOST 1048576: true; the input reads as it did. -/
def outworkBetterUptoRow : OpenClaim := { program := "ytninkfpeeemcoaa", sum := "72995e8314557033dbe962ecafd1675dca9263f2e009e084e522b6544850bd52", func := "panache/panachelaw07.OutworkBetter", spec := "outworkBetter", unfollowed := true, recurses := true, apart := false, narrowed := true }
def OutworkBetterUptoSaid : Prop := outworkBetterUptoRow.holds Try.pinned (OpenSpec.upto outworkBetterSpec)

/-- 'panachelaw07.OutworkQuits', WHERE WHAT IT READS IS OF BULK AT MOST 1048576: true; the input reads as it did. -/
def outworkQuitsUptoRow : OpenClaim := { program := "ytninkfpeeemcoaa", sum := "72995e8314557033dbe962ecafd1675dca9263f2e009e084e522b6544850bd52", func := "panache/panachelaw07.OutworkQuits", spec := "outworkQuits", unfollowed := true, recurses := true, apart := false, narrowed := true }
def OutworkQuitsUptoSaid : Prop := outworkQuitsUptoRow.holds Try.pinned (OpenSpec.upto outworkQuitsSpec)

end Rows
end Go.Proofs.Ytninkfpeeemcoaa
