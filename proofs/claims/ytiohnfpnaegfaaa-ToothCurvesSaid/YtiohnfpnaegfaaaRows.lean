/-
  No cell of these rows narrows 'for every input' (looked for: loops, veiled, ifaces, maps, wideKeys, modest, calm, conditions, laid).
  DERIVED. THE GIVEN ROWS OF THIS SEAT. 5 by the template 'for every input the law returns true; each argument reads behind the call as it read before'; 0 by the template 'total and deterministic' (their statements: YtiohnfpnaegfaaaTotals.lean).
  GIVEN WITH THE SEED: the statements are not yours to turn. If you find one false, say at which input.
  Laid BY PROGRAM, IN A SANDBOX (cutbox-rows.mjs): the forced cells as the released guide's own fill.sh prints them over the translation 62f931a76d8e7cb8… (all of the seat's roots in one cut). By AI agents, Wed Nov 11 2026. No macro, syntax, notation, axiom, sorry.
-/
import Derived.Test.YtiohnfpnaegfaaaChecked
import GoSem.Claim
import GoSem.ClaimJoined
import GoSem.ClaimMapViews
import Derived.JoinedTies
import Derived.KernelRfl
namespace Go.Proofs.Ytiohnfpnaegfaaa
/- THE CELL 'sum', in the pinned program and in every row, IS THE sha256 OF THE DUMP (.gsa) THAT YtiohnfpnaegfaaaProg.lean LOADS. Nothing in Lean hashes anything: it is a label: what it is worth is what the hold of that sum in a sandbox is worth. -/
noncomputable def Try.pinned : Pinned := { name := "ytiohnfpnaegfaaa", sum := "62f931a76d8e7cb83ef9eec40d88e5ba886c5e45c557d7674ca5603cc3bc89de", checked := Try.checked }
namespace Rows
def none {H : Type} : Left H := { results := [], args := [] }

/-- 'panachelaw01.ToothMosts': WHATEVER THE INPUT: true; the input reads as it did. -/
def toothMostsSpec : ChangeSpec := { name := "toothMosts", fn := fun _ => fun
  | [d1, d2] => { results := [.lit (.bool true)], args := [d1, d2] }
  | _ => none }
def toothMostsRow : OpenClaim := { program := "ytiohnfpnaegfaaa", sum := "62f931a76d8e7cb83ef9eec40d88e5ba886c5e45c557d7674ca5603cc3bc89de", func := "panache/panachelaw01.ToothMosts", spec := "toothMosts", unfollowed := true, recurses := true, apart := false }
def ToothMostsSaid : Prop := toothMostsRow.holds Try.pinned (OpenSpec.ofChange toothMostsSpec)

/-- ITS FALSE NEIGHBOUR: 'it returns false'. Refute it at one input. -/
def toothMostsWrong : ChangeSpec := { name := "toothMosts", fn := fun _ => fun
  | [d1, d2] => { results := [.lit (.bool false)], args := [d1, d2] }
  | _ => none }
def ToothMostsWrongFalsely : Prop := toothMostsRow.holds Try.pinned (OpenSpec.ofChange toothMostsWrong)

/-- 'panachelaw01.ToothBounds': WHATEVER THE INPUT: true; the input reads as it did. -/
def toothBoundsSpec : ChangeSpec := { name := "toothBounds", fn := fun _ => fun
  | [d1, d2] => { results := [.lit (.bool true)], args := [d1, d2] }
  | _ => none }
def toothBoundsRow : OpenClaim := { program := "ytiohnfpnaegfaaa", sum := "62f931a76d8e7cb83ef9eec40d88e5ba886c5e45c557d7674ca5603cc3bc89de", func := "panache/panachelaw01.ToothBounds", spec := "toothBounds", unfollowed := true, recurses := true, apart := false }
def ToothBoundsSaid : Prop := toothBoundsRow.holds Try.pinned (OpenSpec.ofChange toothBoundsSpec)

/-- ITS FALSE NEIGHBOUR: 'it returns false'. Refute it at one input. -/
def toothBoundsWrong : ChangeSpec := { name := "toothBounds", fn := fun _ => fun
  | [d1, d2] => { results := [.lit (.bool false)], args := [d1, d2] }
  | _ => none }
def ToothBoundsWrongFalsely : Prop := toothBoundsRow.holds Try.pinned (OpenSpec.ofChange toothBoundsWrong)

/-- 'panachelaw01.ToothWidests': WHATEVER THE INPUT: true; the input reads as it did. -/
def toothWidestsSpec : ChangeSpec := { name := "toothWidests", fn := fun _ => fun
  | [d1, d2, d3] => { results := [.lit (.bool true)], args := [d1, d2, d3] }
  | _ => none }
def toothWidestsRow : OpenClaim := { program := "ytiohnfpnaegfaaa", sum := "62f931a76d8e7cb83ef9eec40d88e5ba886c5e45c557d7674ca5603cc3bc89de", func := "panache/panachelaw01.ToothWidests", spec := "toothWidests", unfollowed := true, recurses := true, apart := false }
def ToothWidestsSaid : Prop := toothWidestsRow.holds Try.pinned (OpenSpec.ofChange toothWidestsSpec)

/-- ITS FALSE NEIGHBOUR: 'it returns false'. Refute it at one input. -/
def toothWidestsWrong : ChangeSpec := { name := "toothWidests", fn := fun _ => fun
  | [d1, d2, d3] => { results := [.lit (.bool false)], args := [d1, d2, d3] }
  | _ => none }
def ToothWidestsWrongFalsely : Prop := toothWidestsRow.holds Try.pinned (OpenSpec.ofChange toothWidestsWrong)

/-- 'panachelaw01.ToothCurves': WHATEVER THE INPUT: true; the input reads as it did. -/
def toothCurvesSpec : ChangeSpec := { name := "toothCurves", fn := fun _ => fun
  | [d] => { results := [.lit (.bool true)], args := [d] }
  | _ => none }
def toothCurvesRow : OpenClaim := { program := "ytiohnfpnaegfaaa", sum := "62f931a76d8e7cb83ef9eec40d88e5ba886c5e45c557d7674ca5603cc3bc89de", func := "panache/panachelaw01.ToothCurves", spec := "toothCurves", unfollowed := true, recurses := true, apart := false }
def ToothCurvesSaid : Prop := toothCurvesRow.holds Try.pinned (OpenSpec.ofChange toothCurvesSpec)

/-- ITS FALSE NEIGHBOUR: 'it returns false'. Refute it at one input. -/
def toothCurvesWrong : ChangeSpec := { name := "toothCurves", fn := fun _ => fun
  | [d] => { results := [.lit (.bool false)], args := [d] }
  | _ => none }
def ToothCurvesWrongFalsely : Prop := toothCurvesRow.holds Try.pinned (OpenSpec.ofChange toothCurvesWrong)

/-- 'panachelaw01.ToothCosts': WHATEVER THE INPUT: true; the input reads as it did. -/
def toothCostsSpec : ChangeSpec := { name := "toothCosts", fn := fun _ => fun
  | [d1, d2] => { results := [.lit (.bool true)], args := [d1, d2] }
  | _ => none }
def toothCostsRow : OpenClaim := { program := "ytiohnfpnaegfaaa", sum := "62f931a76d8e7cb83ef9eec40d88e5ba886c5e45c557d7674ca5603cc3bc89de", func := "panache/panachelaw01.ToothCosts", spec := "toothCosts", unfollowed := true, recurses := true, apart := false }
def ToothCostsSaid : Prop := toothCostsRow.holds Try.pinned (OpenSpec.ofChange toothCostsSpec)

/-- ITS FALSE NEIGHBOUR: 'it returns false'. Refute it at one input. -/
def toothCostsWrong : ChangeSpec := { name := "toothCosts", fn := fun _ => fun
  | [d1, d2] => { results := [.lit (.bool false)], args := [d1, d2] }
  | _ => none }
def ToothCostsWrongFalsely : Prop := toothCostsRow.holds Try.pinned (OpenSpec.ofChange toothCostsWrong)

/- THE SECOND FORM. 'bulk': how many values and letters a reading holds, each counted each time it is reached (what is shared counts as often as it is met; a slice's spare places count too). A statement '..UptoSaid' is the law's where the arguments, and the package variables that the reading takes, are together of bulk at most 1048576: NARROWER than '..Said'. Prove '..Said' where nothing that the law and all that it calls make is longer than what came in: it says more and counts as full. Else prove '..UptoSaid'. A law counts once. -/
mutual
def uptoBulk {H : Type} : DataW H → Nat
  | .lit (.string bytes) => bytes.length + 1
  | .lit _ => 1
  | .nil => 1
  | .ptr d => uptoBulk d + 1
  | .slice elems spare => uptoBulkAll elems + uptoBulkAll spare + 1
  | .agg parts => uptoBulkAll parts + 1
  | .iface _ d => uptoBulk d + 1
  | .map entries => uptoBulkEntries entries + 1
  | .held _ => 1
def uptoBulkAll {H : Type} : List (DataW H) → Nat
  | [] => 0
  | d :: r => uptoBulk d + uptoBulkAll r
def uptoBulkEntries {H : Type} : List (Lit × DataW H) → Nat
  | [] => 0
  | x :: r => uptoBulkEntry x + uptoBulkEntries r
def uptoBulkEntry {H : Type} : Lit × DataW H → Nat
  | (.string bytes, d) => bytes.length + uptoBulk d + 1
  | (_, d) => uptoBulk d + 1
 end
def uptoSmall : (H : Type) → List (DataW H) → Bool := fun _ ds => decide (uptoBulkAll ds ≤ 1048576)
def OpenSpec.upto (s : _root_.Go.ChangeSpec) : _root_.Go.OpenSpec := { _root_.Go.OpenSpec.ofChange s with cond := some uptoSmall }

/-- 'panachelaw01.ToothMosts', WHERE WHAT IT READS IS OF BULK AT MOST 1048576: true; the input reads as it did. -/
def toothMostsUptoRow : OpenClaim := { program := "ytiohnfpnaegfaaa", sum := "62f931a76d8e7cb83ef9eec40d88e5ba886c5e45c557d7674ca5603cc3bc89de", func := "panache/panachelaw01.ToothMosts", spec := "toothMosts", unfollowed := true, recurses := true, apart := false, narrowed := true }
def ToothMostsUptoSaid : Prop := toothMostsUptoRow.holds Try.pinned (OpenSpec.upto toothMostsSpec)

/-- 'panachelaw01.ToothBounds', WHERE WHAT IT READS IS OF BULK AT MOST 1048576: true; the input reads as it did. -/
def toothBoundsUptoRow : OpenClaim := { program := "ytiohnfpnaegfaaa", sum := "62f931a76d8e7cb83ef9eec40d88e5ba886c5e45c557d7674ca5603cc3bc89de", func := "panache/panachelaw01.ToothBounds", spec := "toothBounds", unfollowed := true, recurses := true, apart := false, narrowed := true }
def ToothBoundsUptoSaid : Prop := toothBoundsUptoRow.holds Try.pinned (OpenSpec.upto toothBoundsSpec)

/-- 'panachelaw01.ToothWidests', WHERE WHAT IT READS IS OF BULK AT MOST 1048576: true; the input reads as it did. -/
def toothWidestsUptoRow : OpenClaim := { program := "ytiohnfpnaegfaaa", sum := "62f931a76d8e7cb83ef9eec40d88e5ba886c5e45c557d7674ca5603cc3bc89de", func := "panache/panachelaw01.ToothWidests", spec := "toothWidests", unfollowed := true, recurses := true, apart := false, narrowed := true }
def ToothWidestsUptoSaid : Prop := toothWidestsUptoRow.holds Try.pinned (OpenSpec.upto toothWidestsSpec)

/-- 'panachelaw01.ToothCurves', WHERE WHAT IT READS IS OF BULK AT MOST 1048576: true; the input reads as it did. -/
def toothCurvesUptoRow : OpenClaim := { program := "ytiohnfpnaegfaaa", sum := "62f931a76d8e7cb83ef9eec40d88e5ba886c5e45c557d7674ca5603cc3bc89de", func := "panache/panachelaw01.ToothCurves", spec := "toothCurves", unfollowed := true, recurses := true, apart := false, narrowed := true }
def ToothCurvesUptoSaid : Prop := toothCurvesUptoRow.holds Try.pinned (OpenSpec.upto toothCurvesSpec)

/-- 'panachelaw01.ToothCosts', WHERE WHAT IT READS IS OF BULK AT MOST 1048576: true; the input reads as it did. -/
def toothCostsUptoRow : OpenClaim := { program := "ytiohnfpnaegfaaa", sum := "62f931a76d8e7cb83ef9eec40d88e5ba886c5e45c557d7674ca5603cc3bc89de", func := "panache/panachelaw01.ToothCosts", spec := "toothCosts", unfollowed := true, recurses := true, apart := false, narrowed := true }
def ToothCostsUptoSaid : Prop := toothCostsUptoRow.holds Try.pinned (OpenSpec.upto toothCostsSpec)

end Rows
end Go.Proofs.Ytiohnfpnaegfaaa
