/-
  No cell of these rows narrows 'for every input' (looked for: loops, veiled, ifaces, maps, wideKeys, modest, calm, conditions, laid).
  DERIVED. THE GIVEN ROWS OF THIS SEAT. 5 by the template 'for every input the law returns true; each argument reads behind the call as it read before'; 0 by the template 'total and deterministic' (their statements: YtpnmbpbcgifkeaaTotals.lean).
  GIVEN WITH THE SEED: the statements are not yours to turn. If you find one false, say at which input.
  Laid BY PROGRAM, IN A SANDBOX (cutbox-rows.mjs): the forced cells as the released guide's own fill.sh prints them over the translation a7b3cab0e5052c50… (all of the seat's roots in one cut). By AI agents, Wed Nov 11 2026. No macro, syntax, notation, axiom, sorry.
-/
import Derived.Test.YtpnmbpbcgifkeaaChecked
import GoSem.Claim
import GoSem.ClaimJoined
import GoSem.ClaimMapViews
import Derived.JoinedTies
import Derived.KernelRfl
namespace Go.Proofs.Ytpnmbpbcgifkeaa
/- THE CELL 'sum', in the pinned program and in every row, IS THE sha256 OF THE DUMP (.gsa) THAT YtpnmbpbcgifkeaaProg.lean LOADS. Nothing in Lean hashes anything: it is a label: what it is worth is what the hold of that sum in a sandbox is worth. -/
noncomputable def Try.pinned : Pinned := { name := "ytpnmbpbcgifkeaa", sum := "a7b3cab0e5052c50022733dc56019ff3dd844a5cb5c73ab071c8933809735f5f", checked := Try.checked }
namespace Rows
def none {H : Type} : Left H := { results := [], args := [] }

/-- 'panachelaw12.WageMore': WHATEVER THE INPUT: true; the input reads as it did. -/
def wageMoreSpec : ChangeSpec := { name := "wageMore", fn := fun _ => fun
  | [d1, d2] => { results := [.lit (.bool true)], args := [d1, d2] }
  | _ => none }
def wageMoreRow : OpenClaim := { program := "ytpnmbpbcgifkeaa", sum := "a7b3cab0e5052c50022733dc56019ff3dd844a5cb5c73ab071c8933809735f5f", func := "panache/panachelaw12.WageMore", spec := "wageMore", unfollowed := true, recurses := true, apart := false }
def WageMoreSaid : Prop := wageMoreRow.holds Try.pinned (OpenSpec.ofChange wageMoreSpec)

/-- ITS FALSE NEIGHBOUR: 'it returns false'. Refute it at one input. -/
def wageMoreWrong : ChangeSpec := { name := "wageMore", fn := fun _ => fun
  | [d1, d2] => { results := [.lit (.bool false)], args := [d1, d2] }
  | _ => none }
def WageMoreWrongFalsely : Prop := wageMoreRow.holds Try.pinned (OpenSpec.ofChange wageMoreWrong)

/-- 'panachelaw12.WageFair': WHATEVER THE INPUT: true; the input reads as it did. -/
def wageFairSpec : ChangeSpec := { name := "wageFair", fn := fun _ => fun
  | [d1, d2, d3] => { results := [.lit (.bool true)], args := [d1, d2, d3] }
  | _ => none }
def wageFairRow : OpenClaim := { program := "ytpnmbpbcgifkeaa", sum := "a7b3cab0e5052c50022733dc56019ff3dd844a5cb5c73ab071c8933809735f5f", func := "panache/panachelaw12.WageFair", spec := "wageFair", unfollowed := true, recurses := true, apart := false }
def WageFairSaid : Prop := wageFairRow.holds Try.pinned (OpenSpec.ofChange wageFairSpec)

/-- ITS FALSE NEIGHBOUR: 'it returns false'. Refute it at one input. -/
def wageFairWrong : ChangeSpec := { name := "wageFair", fn := fun _ => fun
  | [d1, d2, d3] => { results := [.lit (.bool false)], args := [d1, d2, d3] }
  | _ => none }
def WageFairWrongFalsely : Prop := wageFairRow.holds Try.pinned (OpenSpec.ofChange wageFairWrong)

/-- 'panachelaw12.WageWay': WHATEVER THE INPUT: true; the input reads as it did. -/
def wageWaySpec : ChangeSpec := { name := "wageWay", fn := fun _ => fun
  | [d1, d2] => { results := [.lit (.bool true)], args := [d1, d2] }
  | _ => none }
def wageWayRow : OpenClaim := { program := "ytpnmbpbcgifkeaa", sum := "a7b3cab0e5052c50022733dc56019ff3dd844a5cb5c73ab071c8933809735f5f", func := "panache/panachelaw12.WageWay", spec := "wageWay", unfollowed := true, recurses := true, apart := false }
def WageWaySaid : Prop := wageWayRow.holds Try.pinned (OpenSpec.ofChange wageWaySpec)

/-- ITS FALSE NEIGHBOUR: 'it returns false'. Refute it at one input. -/
def wageWayWrong : ChangeSpec := { name := "wageWay", fn := fun _ => fun
  | [d1, d2] => { results := [.lit (.bool false)], args := [d1, d2] }
  | _ => none }
def WageWayWrongFalsely : Prop := wageWayRow.holds Try.pinned (OpenSpec.ofChange wageWayWrong)

/-- 'panachelaw12.WageTruth': WHATEVER THE INPUT: true; the input reads as it did. -/
def wageTruthSpec : ChangeSpec := { name := "wageTruth", fn := fun _ => fun
  | [d1, d2, d3] => { results := [.lit (.bool true)], args := [d1, d2, d3] }
  | _ => none }
def wageTruthRow : OpenClaim := { program := "ytpnmbpbcgifkeaa", sum := "a7b3cab0e5052c50022733dc56019ff3dd844a5cb5c73ab071c8933809735f5f", func := "panache/panachelaw12.WageTruth", spec := "wageTruth", unfollowed := true, recurses := true, apart := false }
def WageTruthSaid : Prop := wageTruthRow.holds Try.pinned (OpenSpec.ofChange wageTruthSpec)

/-- ITS FALSE NEIGHBOUR: 'it returns false'. Refute it at one input. -/
def wageTruthWrong : ChangeSpec := { name := "wageTruth", fn := fun _ => fun
  | [d1, d2, d3] => { results := [.lit (.bool false)], args := [d1, d2, d3] }
  | _ => none }
def WageTruthWrongFalsely : Prop := wageTruthRow.holds Try.pinned (OpenSpec.ofChange wageTruthWrong)

/-- 'panachelaw12.WageFewest': WHATEVER THE INPUT: true; the input reads as it did. -/
def wageFewestSpec : ChangeSpec := { name := "wageFewest", fn := fun _ => fun
  | [d1, d2] => { results := [.lit (.bool true)], args := [d1, d2] }
  | _ => none }
def wageFewestRow : OpenClaim := { program := "ytpnmbpbcgifkeaa", sum := "a7b3cab0e5052c50022733dc56019ff3dd844a5cb5c73ab071c8933809735f5f", func := "panache/panachelaw12.WageFewest", spec := "wageFewest", unfollowed := true, recurses := true, apart := false }
def WageFewestSaid : Prop := wageFewestRow.holds Try.pinned (OpenSpec.ofChange wageFewestSpec)

/-- ITS FALSE NEIGHBOUR: 'it returns false'. Refute it at one input. -/
def wageFewestWrong : ChangeSpec := { name := "wageFewest", fn := fun _ => fun
  | [d1, d2] => { results := [.lit (.bool false)], args := [d1, d2] }
  | _ => none }
def WageFewestWrongFalsely : Prop := wageFewestRow.holds Try.pinned (OpenSpec.ofChange wageFewestWrong)

/- THE SECOND FORM. 'bulk': how many values and letters a reading holds, each counted each time it is reached (what is shared counts as often as it is met; a slice's spare places count too). A statement '..UptoSaid' is the law's where the arguments, and the package variables that the reading takes, are together of bulk at most 1048576: NARROWER than '..Said'. Prove '..Said' where nothing that the law and all that it calls make is longer than what came in: it says more and counts as full. Else prove '..UptoSaid'. A law counts once. -/
mutual
def uptoBulk {H : Type} : DataW H → Nat
  | .lit (.string bytes) => bytes.length + 1
  | .lit _ => 1
  | .nil => 1
  | .ptr d => uptoBulk d + 1
  | .slice elems spare => uptoBulkAll elems + uptoBulkAll spare + 1
  | .agg parts => uptoBulkAll parts + 1
  | .iface _ d => uptoBulk d + 1
  | .map entries => uptoBulkEntries entries + 1
  | .held _ => 1
def uptoBulkAll {H : Type} : List (DataW H) → Nat
  | [] => 0
  | d :: r => uptoBulk d + uptoBulkAll r
def uptoBulkEntries {H : Type} : List (Lit × DataW H) → Nat
  | [] => 0
  | x :: r => uptoBulkEntry x + uptoBulkEntries r
def uptoBulkEntry {H : Type} : Lit × DataW H → Nat
  | (.string bytes, d) => bytes.length + uptoBulk d + 1
  | (_, d) => uptoBulk d + 1
 end
def uptoSmall : (H : Type) → List (DataW H) → Bool := fun _ ds => decide (uptoBulkAll ds ≤ 1048576)
def OpenSpec.upto (s : _root_.Go.ChangeSpec) : _root_.Go.OpenSpec := { _root_.Go.OpenSpec.ofChange s with cond := some uptoSmall }

/-- 'panachelaw12.WageMore', WHERE WHAT IT READS IS OF BULK AT MOST 1048576: true; the input reads as it did. -/
def wageMoreUptoRow : OpenClaim := { program := "ytpnmbpbcgifkeaa", sum := "a7b3cab0e5052c50022733dc56019ff3dd844a5cb5c73ab071c8933809735f5f", func := "panache/panachelaw12.WageMore", spec := "wageMore", unfollowed := true, recurses := true, apart := false, narrowed := true }
def WageMoreUptoSaid : Prop := wageMoreUptoRow.holds Try.pinned (OpenSpec.upto wageMoreSpec)

/-- 'panachelaw12.WageFair', WHERE WHAT IT READS IS OF BULK AT MOST 1048576: true; the input reads as it did. -/
def wageFairUptoRow : OpenClaim := { program := "ytpnmbpbcgifkeaa", sum := "a7b3cab0e5052c50022733dc56019ff3dd844a5cb5c73ab071c8933809735f5f", func := "panache/panachelaw12.WageFair", spec := "wageFair", unfollowed := true, recurses := true, apart := false, narrowed := true }
def WageFairUptoSaid : Prop := wageFairUptoRow.holds Try.pinned (OpenSpec.upto wageFairSpec)

/-- 'panachelaw12.WageWay', WHERE WHAT IT READS IS OF BULK AT MOST 1048576: true; the input reads as it did. -/
def wageWayUptoRow : OpenClaim := { program := "ytpnmbpbcgifkeaa", sum := "a7b3cab0e5052c50022733dc56019ff3dd844a5cb5c73ab071c8933809735f5f", func := "panache/panachelaw12.WageWay", spec := "wageWay", unfollowed := true, recurses := true, apart := false, narrowed := true }
def WageWayUptoSaid : Prop := wageWayUptoRow.holds Try.pinned (OpenSpec.upto wageWaySpec)

/-- 'panachelaw12.WageTruth', WHERE WHAT IT READS IS OF BULK AT MOST 1048576: true; the input reads as it did. -/
def wageTruthUptoRow : OpenClaim := { program := "ytpnmbpbcgifkeaa", sum := "a7b3cab0e5052c50022733dc56019ff3dd844a5cb5c73ab071c8933809735f5f", func := "panache/panachelaw12.WageTruth", spec := "wageTruth", unfollowed := true, recurses := true, apart := false, narrowed := true }
def WageTruthUptoSaid : Prop := wageTruthUptoRow.holds Try.pinned (OpenSpec.upto wageTruthSpec)

/-- 'panachelaw12.WageFewest', WHERE WHAT IT READS IS OF BULK AT MOST 1048576: true; the input reads as it did. -/
def wageFewestUptoRow : OpenClaim := { program := "ytpnmbpbcgifkeaa", sum := "a7b3cab0e5052c50022733dc56019ff3dd844a5cb5c73ab071c8933809735f5f", func := "panache/panachelaw12.WageFewest", spec := "wageFewest", unfollowed := true, recurses := true, apart := false, narrowed := true }
def WageFewestUptoSaid : Prop := wageFewestUptoRow.holds Try.pinned (OpenSpec.upto wageFewestSpec)

end Rows
end Go.Proofs.Ytpnmbpbcgifkeaa
