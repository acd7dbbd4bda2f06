/-
  No cell of these rows narrows 'for every input' (looked for: loops, veiled, ifaces, maps, wideKeys, modest, calm, conditions, laid).
  DERIVED. THE GIVEN ROWS OF THIS SEAT. 5 by the template 'for every input the law returns true; each argument reads behind the call as it read before'; 0 by the template 'total and deterministic' (their statements: YtafpicjnccffgaaTotals.lean).
  GIVEN WITH THE SEED: the statements are not yours to turn. If you find one false, say at which input.
  Laid BY PROGRAM, IN A SANDBOX (cutbox-rows.mjs): the forced cells as the released guide's own fill.sh prints them over the translation 1d62abfd1e222f94… (all of the seat's roots in one cut). By AI agents, Wed Nov 11 2026. No macro, syntax, notation, axiom, sorry.
-/
import Derived.Test.YtafpicjnccffgaaChecked
import GoSem.Claim
import GoSem.ClaimJoined
import GoSem.ClaimMapViews
import Derived.JoinedTies
import Derived.KernelRfl
namespace Go.Proofs.Ytafpicjnccffgaa
/- THE CELL 'sum', in the pinned program and in every row, IS THE sha256 OF THE DUMP (.gsa) THAT YtafpicjnccffgaaProg.lean LOADS. Nothing in Lean hashes anything: it is a label: what it is worth is what the hold of that sum in a sandbox is worth. -/
noncomputable def Try.pinned : Pinned := { name := "ytafpicjnccffgaa", sum := "1d62abfd1e222f94801baf46258995cbc02bad64ad568c9f7df424a938f1a116", checked := Try.checked }
namespace Rows
def none {H : Type} : Left H := { results := [], args := [] }

/-- 'panachelaw01.ToothPossibles': WHATEVER THE INPUT: true; the input reads as it did. -/
def toothPossiblesSpec : ChangeSpec := { name := "toothPossibles", fn := fun _ => fun
  | [d1, d2] => { results := [.lit (.bool true)], args := [d1, d2] }
  | _ => none }
def toothPossiblesRow : OpenClaim := { program := "ytafpicjnccffgaa", sum := "1d62abfd1e222f94801baf46258995cbc02bad64ad568c9f7df424a938f1a116", func := "panache/panachelaw01.ToothPossibles", spec := "toothPossibles", unfollowed := true, recurses := true, apart := false }
def ToothPossiblesSaid : Prop := toothPossiblesRow.holds Try.pinned (OpenSpec.ofChange toothPossiblesSpec)

/-- ITS FALSE NEIGHBOUR: 'it returns false'. Refute it at one input. -/
def toothPossiblesWrong : ChangeSpec := { name := "toothPossibles", fn := fun _ => fun
  | [d1, d2] => { results := [.lit (.bool false)], args := [d1, d2] }
  | _ => none }
def ToothPossiblesWrongFalsely : Prop := toothPossiblesRow.holds Try.pinned (OpenSpec.ofChange toothPossiblesWrong)

/-- 'panachelaw01.ToothFits': WHATEVER THE INPUT: true; the input reads as it did. -/
def toothFitsSpec : ChangeSpec := { name := "toothFits", fn := fun _ => fun
  | [d1, d2, d3] => { results := [.lit (.bool true)], args := [d1, d2, d3] }
  | _ => none }
def toothFitsRow : OpenClaim := { program := "ytafpicjnccffgaa", sum := "1d62abfd1e222f94801baf46258995cbc02bad64ad568c9f7df424a938f1a116", func := "panache/panachelaw01.ToothFits", spec := "toothFits", unfollowed := true, recurses := true, apart := false }
def ToothFitsSaid : Prop := toothFitsRow.holds Try.pinned (OpenSpec.ofChange toothFitsSpec)

/-- ITS FALSE NEIGHBOUR: 'it returns false'. Refute it at one input. -/
def toothFitsWrong : ChangeSpec := { name := "toothFits", fn := fun _ => fun
  | [d1, d2, d3] => { results := [.lit (.bool false)], args := [d1, d2, d3] }
  | _ => none }
def ToothFitsWrongFalsely : Prop := toothFitsRow.holds Try.pinned (OpenSpec.ofChange toothFitsWrong)

/-- 'panachelaw01.ToothNoMore': WHATEVER THE INPUT: true; the input reads as it did. -/
def toothNoMoreSpec : ChangeSpec := { name := "toothNoMore", fn := fun _ => fun
  | [d1, d2, d3] => { results := [.lit (.bool true)], args := [d1, d2, d3] }
  | _ => none }
def toothNoMoreRow : OpenClaim := { program := "ytafpicjnccffgaa", sum := "1d62abfd1e222f94801baf46258995cbc02bad64ad568c9f7df424a938f1a116", func := "panache/panachelaw01.ToothNoMore", spec := "toothNoMore", unfollowed := true, recurses := true, apart := false }
def ToothNoMoreSaid : Prop := toothNoMoreRow.holds Try.pinned (OpenSpec.ofChange toothNoMoreSpec)

/-- ITS FALSE NEIGHBOUR: 'it returns false'. Refute it at one input. -/
def toothNoMoreWrong : ChangeSpec := { name := "toothNoMore", fn := fun _ => fun
  | [d1, d2, d3] => { results := [.lit (.bool false)], args := [d1, d2, d3] }
  | _ => none }
def ToothNoMoreWrongFalsely : Prop := toothNoMoreRow.holds Try.pinned (OpenSpec.ofChange toothNoMoreWrong)

/-- 'panachelaw01.ToothSure': WHATEVER THE INPUT: true; the input reads as it did. -/
def toothSureSpec : ChangeSpec := { name := "toothSure", fn := fun _ => fun
  | [d] => { results := [.lit (.bool true)], args := [d] }
  | _ => none }
def toothSureRow : OpenClaim := { program := "ytafpicjnccffgaa", sum := "1d62abfd1e222f94801baf46258995cbc02bad64ad568c9f7df424a938f1a116", func := "panache/panachelaw01.ToothSure", spec := "toothSure", unfollowed := true, recurses := true, apart := false }
def ToothSureSaid : Prop := toothSureRow.holds Try.pinned (OpenSpec.ofChange toothSureSpec)

/-- ITS FALSE NEIGHBOUR: 'it returns false'. Refute it at one input. -/
def toothSureWrong : ChangeSpec := { name := "toothSure", fn := fun _ => fun
  | [d] => { results := [.lit (.bool false)], args := [d] }
  | _ => none }
def ToothSureWrongFalsely : Prop := toothSureRow.holds Try.pinned (OpenSpec.ofChange toothSureWrong)

/-- 'panachelaw01.ToothMay': WHATEVER THE INPUT: true; the input reads as it did. -/
def toothMaySpec : ChangeSpec := { name := "toothMay", fn := fun _ => fun
  | [d1, d2] => { results := [.lit (.bool true)], args := [d1, d2] }
  | _ => none }
def toothMayRow : OpenClaim := { program := "ytafpicjnccffgaa", sum := "1d62abfd1e222f94801baf46258995cbc02bad64ad568c9f7df424a938f1a116", func := "panache/panachelaw01.ToothMay", spec := "toothMay", unfollowed := true, recurses := true, apart := false }
def ToothMaySaid : Prop := toothMayRow.holds Try.pinned (OpenSpec.ofChange toothMaySpec)

/-- ITS FALSE NEIGHBOUR: 'it returns false'. Refute it at one input. -/
def toothMayWrong : ChangeSpec := { name := "toothMay", fn := fun _ => fun
  | [d1, d2] => { results := [.lit (.bool false)], args := [d1, d2] }
  | _ => none }
def ToothMayWrongFalsely : Prop := toothMayRow.holds Try.pinned (OpenSpec.ofChange toothMayWrong)

/- THE SECOND FORM. 'bulk': how many values and letters a reading holds, each counted each time it is reached (what is shared counts as often as it is met; a slice's spare places count too). A statement '..UptoSaid' is the law's where the arguments, and the package variables that the reading takes, are together of bulk at most 1048576: NARROWER than '..Said'. Prove '..Said' where nothing that the law and all that it calls make is longer than what came in: it says more and counts as full. Else prove '..UptoSaid'. A law counts once. -/
mutual
def uptoBulk {H : Type} : DataW H → Nat
  | .lit (.string bytes) => bytes.length + 1
  | .lit _ => 1
  | .nil => 1
  | .ptr d => uptoBulk d + 1
  | .slice elems spare => uptoBulkAll elems + uptoBulkAll spare + 1
  | .agg parts => uptoBulkAll parts + 1
  | .iface _ d => uptoBulk d + 1
  | .map entries => uptoBulkEntries entries + 1
  | .held _ => 1
def uptoBulkAll {H : Type} : List (DataW H) → Nat
  | [] => 0
  | d :: r => uptoBulk d + uptoBulkAll r
def uptoBulkEntries {H : Type} : List (Lit × DataW H) → Nat
  | [] => 0
  | x :: r => uptoBulkEntry x + uptoBulkEntries r
def uptoBulkEntry {H : Type} : Lit × DataW H → Nat
  | (.string bytes, d) => bytes.length + uptoBulk d + 1
  | (_, d) => uptoBulk d + 1
 end
def uptoSmall : (H : Type) → List (DataW H) → Bool := fun _ ds => decide (uptoBulkAll ds ≤ 1048576)
def OpenSpec.upto (s : _root_.Go.ChangeSpec) : _root_.Go.OpenSpec := { _root_.Go.OpenSpec.ofChange s with cond := some uptoSmall }

/-- 'panachelaw01.ToothPossibles', WHERE WHAT IT READS IS OF BULK AT MOST 1048576: true; the input reads as it did. -/
def toothPossiblesUptoRow : OpenClaim := { program := "ytafpicjnccffgaa", sum := "1d62abfd1e222f94801baf46258995cbc02bad64ad568c9f7df424a938f1a116", func := "panache/panachelaw01.ToothPossibles", spec := "toothPossibles", unfollowed := true, recurses := true, apart := false, narrowed := true }
def ToothPossiblesUptoSaid : Prop := toothPossiblesUptoRow.holds Try.pinned (OpenSpec.upto toothPossiblesSpec)

/-- 'panachelaw01.ToothFits', WHERE WHAT IT READS IS OF BULK AT MOST 1048576: true; the input reads as it did. -/
def toothFitsUptoRow : OpenClaim := { program := "ytafpicjnccffgaa", sum := "1d62abfd1e222f94801baf46258995cbc02bad64ad568c9f7df424a938f1a116", func := "panache/panachelaw01.ToothFits", spec := "toothFits", unfollowed := true, recurses := true, apart := false, narrowed := true }
def ToothFitsUptoSaid : Prop := toothFitsUptoRow.holds Try.pinned (OpenSpec.upto toothFitsSpec)

/-- 'panachelaw01.ToothNoMore', WHERE WHAT IT READS IS OF BULK AT MOST 1048576: true; the input reads as it did. -/
def toothNoMoreUptoRow : OpenClaim := { program := "ytafpicjnccffgaa", sum := "1d62abfd1e222f94801baf46258995cbc02bad64ad568c9f7df424a938f1a116", func := "panache/panachelaw01.ToothNoMore", spec := "toothNoMore", unfollowed := true, recurses := true, apart := false, narrowed := true }
def ToothNoMoreUptoSaid : Prop := toothNoMoreUptoRow.holds Try.pinned (OpenSpec.upto toothNoMoreSpec)

/-- 'panachelaw01.ToothSure', WHERE WHAT IT READS IS OF BULK AT MOST 1048576: true; the input reads as it did. -/
def toothSureUptoRow : OpenClaim := { program := "ytafpicjnccffgaa", sum := "1d62abfd1e222f94801baf46258995cbc02bad64ad568c9f7df424a938f1a116", func := "panache/panachelaw01.ToothSure", spec := "toothSure", unfollowed := true, recurses := true, apart := false, narrowed := true }
def ToothSureUptoSaid : Prop := toothSureUptoRow.holds Try.pinned (OpenSpec.upto toothSureSpec)

/-- 'panachelaw01.ToothMay', WHERE WHAT IT READS IS OF BULK AT MOST 1048576: true; the input reads as it did. -/
def toothMayUptoRow : OpenClaim := { program := "ytafpicjnccffgaa", sum := "1d62abfd1e222f94801baf46258995cbc02bad64ad568c9f7df424a938f1a116", func := "panache/panachelaw01.ToothMay", spec := "toothMay", unfollowed := true, recurses := true, apart := false, narrowed := true }
def ToothMayUptoSaid : Prop := toothMayUptoRow.holds Try.pinned (OpenSpec.upto toothMaySpec)

end Rows
end Go.Proofs.Ytafpicjnccffgaa
