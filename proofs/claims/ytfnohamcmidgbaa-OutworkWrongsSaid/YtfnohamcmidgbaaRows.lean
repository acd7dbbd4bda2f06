/-
  No cell of these rows narrows 'for every input' (looked for: loops, veiled, ifaces, maps, wideKeys, modest, calm, conditions, laid).
  DERIVED. THE GIVEN ROWS OF THIS SEAT. 9 by the template 'for every input the law returns true; each argument reads behind the call as it read before'; 0 by the template 'total and deterministic' (their statements: YtfnohamcmidgbaaTotals.lean).
  GIVEN WITH THE SEED: the statements are not yours to turn. If you find one false, say at which input.
  Laid BY PROGRAM, IN A SANDBOX (cutbox-rows.mjs): the forced cells as the released guide's own fill.sh prints them over the translation 115fcb77cc3da630… (all of the seat's roots in one cut). By AI agents, Wed Nov 11 2026. No macro, syntax, notation, axiom, sorry.
-/
import Derived.Test.YtfnohamcmidgbaaChecked
import GoSem.Claim
import GoSem.ClaimJoined
import GoSem.ClaimMapViews
import Derived.JoinedTies
import Derived.KernelRfl
namespace Go.Proofs.Ytfnohamcmidgbaa
/- THE CELL 'sum', in the pinned program and in every row, IS THE sha256 OF THE DUMP (.gsa) THAT YtfnohamcmidgbaaProg.lean LOADS. Nothing in Lean hashes anything: it is a label: what it is worth is what the hold of that sum in a sandbox is worth. -/
noncomputable def Try.pinned : Pinned := { name := "ytfnohamcmidgbaa", sum := "115fcb77cc3da630814bae020c985efd85867a058a1ae507c627d7ee861f0daa", checked := Try.checked }
namespace Rows
def none {H : Type} : Left H := { results := [], args := [] }

/-- 'panachelaw07.OutworkHas': WHATEVER THE INPUT: true; the input reads as it did. -/
def outworkHasSpec : ChangeSpec := { name := "outworkHas", fn := fun _ => fun
  | [d1, d2, d3] => { results := [.lit (.bool true)], args := [d1, d2, d3] }
  | _ => none }
def outworkHasRow : OpenClaim := { program := "ytfnohamcmidgbaa", sum := "115fcb77cc3da630814bae020c985efd85867a058a1ae507c627d7ee861f0daa", func := "panache/panachelaw07.OutworkHas", spec := "outworkHas", unfollowed := true, recurses := true, apart := false }
def OutworkHasSaid : Prop := outworkHasRow.holds Try.pinned (OpenSpec.ofChange outworkHasSpec)

/-- ITS FALSE NEIGHBOUR: 'it returns false'. Refute it at one input. -/
def outworkHasWrong : ChangeSpec := { name := "outworkHas", fn := fun _ => fun
  | [d1, d2, d3] => { results := [.lit (.bool false)], args := [d1, d2, d3] }
  | _ => none }
def OutworkHasWrongFalsely : Prop := outworkHasRow.holds Try.pinned (OpenSpec.ofChange outworkHasWrong)

/-- 'panachelaw07.OutworkKept': WHATEVER THE INPUT: true; the input reads as it did. -/
def outworkKeptSpec : ChangeSpec := { name := "outworkKept", fn := fun _ => fun
  | [d1, d2, d3] => { results := [.lit (.bool true)], args := [d1, d2, d3] }
  | _ => none }
def outworkKeptRow : OpenClaim := { program := "ytfnohamcmidgbaa", sum := "115fcb77cc3da630814bae020c985efd85867a058a1ae507c627d7ee861f0daa", func := "panache/panachelaw07.OutworkKept", spec := "outworkKept", unfollowed := true, recurses := true, apart := false }
def OutworkKeptSaid : Prop := outworkKeptRow.holds Try.pinned (OpenSpec.ofChange outworkKeptSpec)

/-- ITS FALSE NEIGHBOUR: 'it returns false'. Refute it at one input. -/
def outworkKeptWrong : ChangeSpec := { name := "outworkKept", fn := fun _ => fun
  | [d1, d2, d3] => { results := [.lit (.bool false)], args := [d1, d2, d3] }
  | _ => none }
def OutworkKeptWrongFalsely : Prop := outworkKeptRow.holds Try.pinned (OpenSpec.ofChange outworkKeptWrong)

/-- 'panachelaw07.OutworkFans': WHATEVER THE INPUT: true; the input reads as it did. -/
def outworkFansSpec : ChangeSpec := { name := "outworkFans", fn := fun _ => fun
  | [d1, d2, d3] => { results := [.lit (.bool true)], args := [d1, d2, d3] }
  | _ => none }
def outworkFansRow : OpenClaim := { program := "ytfnohamcmidgbaa", sum := "115fcb77cc3da630814bae020c985efd85867a058a1ae507c627d7ee861f0daa", func := "panache/panachelaw07.OutworkFans", spec := "outworkFans", unfollowed := true, recurses := true, apart := false }
def OutworkFansSaid : Prop := outworkFansRow.holds Try.pinned (OpenSpec.ofChange outworkFansSpec)

/-- ITS FALSE NEIGHBOUR: 'it returns false'. Refute it at one input. -/
def outworkFansWrong : ChangeSpec := { name := "outworkFans", fn := fun _ => fun
  | [d1, d2, d3] => { results := [.lit (.bool false)], args := [d1, d2, d3] }
  | _ => none }
def OutworkFansWrongFalsely : Prop := outworkFansRow.holds Try.pinned (OpenSpec.ofChange outworkFansWrong)

/-- 'panachelaw07.OutworkGives': WHATEVER THE INPUT: true; the input reads as it did. -/
def outworkGivesSpec : ChangeSpec := { name := "outworkGives", fn := fun _ => fun
  | [d1, d2] => { results := [.lit (.bool true)], args := [d1, d2] }
  | _ => none }
def outworkGivesRow : OpenClaim := { program := "ytfnohamcmidgbaa", sum := "115fcb77cc3da630814bae020c985efd85867a058a1ae507c627d7ee861f0daa", func := "panache/panachelaw07.OutworkGives", spec := "outworkGives", unfollowed := true, recurses := true, apart := false }
def OutworkGivesSaid : Prop := outworkGivesRow.holds Try.pinned (OpenSpec.ofChange outworkGivesSpec)

/-- ITS FALSE NEIGHBOUR: 'it returns false'. Refute it at one input. -/
def outworkGivesWrong : ChangeSpec := { name := "outworkGives", fn := fun _ => fun
  | [d1, d2] => { results := [.lit (.bool false)], args := [d1, d2] }
  | _ => none }
def OutworkGivesWrongFalsely : Prop := outworkGivesRow.holds Try.pinned (OpenSpec.ofChange outworkGivesWrong)

/-- 'panachelaw07.OutworkWrongs': WHATEVER THE INPUT: true; the input reads as it did. -/
def outworkWrongsSpec : ChangeSpec := { name := "outworkWrongs", fn := fun _ => fun
  | [d1, d2] => { results := [.lit (.bool true)], args := [d1, d2] }
  | _ => none }
def outworkWrongsRow : OpenClaim := { program := "ytfnohamcmidgbaa", sum := "115fcb77cc3da630814bae020c985efd85867a058a1ae507c627d7ee861f0daa", func := "panache/panachelaw07.OutworkWrongs", spec := "outworkWrongs", unfollowed := true, recurses := true, apart := false }
def OutworkWrongsSaid : Prop := outworkWrongsRow.holds Try.pinned (OpenSpec.ofChange outworkWrongsSpec)

/-- ITS FALSE NEIGHBOUR: 'it returns false'. Refute it at one input. -/
def outworkWrongsWrong : ChangeSpec := { name := "outworkWrongs", fn := fun _ => fun
  | [d1, d2] => { results := [.lit (.bool false)], args := [d1, d2] }
  | _ => none }
def OutworkWrongsWrongFalsely : Prop := outworkWrongsRow.holds Try.pinned (OpenSpec.ofChange outworkWrongsWrong)

/-- 'panachelaw07.OutworkBlames': WHATEVER THE INPUT: true; the input reads as it did. -/
def outworkBlamesSpec : ChangeSpec := { name := "outworkBlames", fn := fun _ => fun
  | [d1, d2] => { results := [.lit (.bool true)], args := [d1, d2] }
  | _ => none }
def outworkBlamesRow : OpenClaim := { program := "ytfnohamcmidgbaa", sum := "115fcb77cc3da630814bae020c985efd85867a058a1ae507c627d7ee861f0daa", func := "panache/panachelaw07.OutworkBlames", spec := "outworkBlames", unfollowed := true, recurses := true, apart := false }
def OutworkBlamesSaid : Prop := outworkBlamesRow.holds Try.pinned (OpenSpec.ofChange outworkBlamesSpec)

/-- ITS FALSE NEIGHBOUR: 'it returns false'. Refute it at one input. -/
def outworkBlamesWrong : ChangeSpec := { name := "outworkBlames", fn := fun _ => fun
  | [d1, d2] => { results := [.lit (.bool false)], args := [d1, d2] }
  | _ => none }
def OutworkBlamesWrongFalsely : Prop := outworkBlamesRow.holds Try.pinned (OpenSpec.ofChange outworkBlamesWrong)

/-- 'panachelaw07.OutworkSettles': WHATEVER THE INPUT: true; the input reads as it did. -/
def outworkSettlesSpec : ChangeSpec := { name := "outworkSettles", fn := fun _ => fun
  | [d1, d2, d3] => { results := [.lit (.bool true)], args := [d1, d2, d3] }
  | _ => none }
def outworkSettlesRow : OpenClaim := { program := "ytfnohamcmidgbaa", sum := "115fcb77cc3da630814bae020c985efd85867a058a1ae507c627d7ee861f0daa", func := "panache/panachelaw07.OutworkSettles", spec := "outworkSettles", unfollowed := true, recurses := true, apart := false }
def OutworkSettlesSaid : Prop := outworkSettlesRow.holds Try.pinned (OpenSpec.ofChange outworkSettlesSpec)

/-- ITS FALSE NEIGHBOUR: 'it returns false'. Refute it at one input. -/
def outworkSettlesWrong : ChangeSpec := { name := "outworkSettles", fn := fun _ => fun
  | [d1, d2, d3] => { results := [.lit (.bool false)], args := [d1, d2, d3] }
  | _ => none }
def OutworkSettlesWrongFalsely : Prop := outworkSettlesRow.holds Try.pinned (OpenSpec.ofChange outworkSettlesWrong)

/-- 'panachelaw07.OutworkMoves': WHATEVER THE INPUT: true; the input reads as it did. -/
def outworkMovesSpec : ChangeSpec := { name := "outworkMoves", fn := fun _ => fun
  | [d1, d2] => { results := [.lit (.bool true)], args := [d1, d2] }
  | _ => none }
def outworkMovesRow : OpenClaim := { program := "ytfnohamcmidgbaa", sum := "115fcb77cc3da630814bae020c985efd85867a058a1ae507c627d7ee861f0daa", func := "panache/panachelaw07.OutworkMoves", spec := "outworkMoves", unfollowed := true, recurses := true, apart := false }
def OutworkMovesSaid : Prop := outworkMovesRow.holds Try.pinned (OpenSpec.ofChange outworkMovesSpec)

/-- ITS FALSE NEIGHBOUR: 'it returns false'. Refute it at one input. -/
def outworkMovesWrong : ChangeSpec := { name := "outworkMoves", fn := fun _ => fun
  | [d1, d2] => { results := [.lit (.bool false)], args := [d1, d2] }
  | _ => none }
def OutworkMovesWrongFalsely : Prop := outworkMovesRow.holds Try.pinned (OpenSpec.ofChange outworkMovesWrong)

/-- 'panachelaw07.OutworkLies': WHATEVER THE INPUT: true; the input reads as it did. -/
def outworkLiesSpec : ChangeSpec := { name := "outworkLies", fn := fun _ => fun
  | [d1, d2, d3] => { results := [.lit (.bool true)], args := [d1, d2, d3] }
  | _ => none }
def outworkLiesRow : OpenClaim := { program := "ytfnohamcmidgbaa", sum := "115fcb77cc3da630814bae020c985efd85867a058a1ae507c627d7ee861f0daa", func := "panache/panachelaw07.OutworkLies", spec := "outworkLies", unfollowed := true, recurses := true, apart := false }
def OutworkLiesSaid : Prop := outworkLiesRow.holds Try.pinned (OpenSpec.ofChange outworkLiesSpec)

/-- ITS FALSE NEIGHBOUR: 'it returns false'. Refute it at one input. -/
def outworkLiesWrong : ChangeSpec := { name := "outworkLies", fn := fun _ => fun
  | [d1, d2, d3] => { results := [.lit (.bool false)], args := [d1, d2, d3] }
  | _ => none }
def OutworkLiesWrongFalsely : Prop := outworkLiesRow.holds Try.pinned (OpenSpec.ofChange outworkLiesWrong)

/- THE SECOND FORM. 'bulk': how many values and letters a reading holds, each counted each time it is reached (what is shared counts as often as it is met; a slice's spare places count too). A statement '..UptoSaid' is the law's where the arguments, and the package variables that the reading takes, are together of bulk at most 1048576: NARROWER than '..Said'. Prove '..Said' where nothing that the law and all that it calls make is longer than what came in: it says more and counts as full. Else prove '..UptoSaid'. A law counts once. -/
mutual
def uptoBulk {H : Type} : DataW H → Nat
  | .lit (.string bytes) => bytes.length + 1
  | .lit _ => 1
  | .nil => 1
  | .ptr d => uptoBulk d + 1
  | .slice elems spare => uptoBulkAll elems + uptoBulkAll spare + 1
  | .agg parts => uptoBulkAll parts + 1
  | .iface _ d => uptoBulk d + 1
  | .map entries => uptoBulkEntries entries + 1
  | .held _ => 1
def uptoBulkAll {H : Type} : List (DataW H) → Nat
  | [] => 0
  | d :: r => uptoBulk d + uptoBulkAll r
def uptoBulkEntries {H : Type} : List (Lit × DataW H) → Nat
  | [] => 0
  | x :: r => uptoBulkEntry x + uptoBulkEntries r
def uptoBulkEntry {H : Type} : Lit × DataW H → Nat
  | (.string bytes, d) => bytes.length + uptoBulk d + 1
  | (_, d) => uptoBulk d + 1
 end
def uptoSmall : (H : Type) → List (DataW H) → Bool := fun _ ds => decide (uptoBulkAll ds ≤ 1048576)
def OpenSpec.upto (s : _root_.Go.ChangeSpec) : _root_.Go.OpenSpec := { _root_.Go.OpenSpec.ofChange s with cond := some uptoSmall }

/-- 'panachelaw07.OutworkHas', WHERE WHAT IT READS IS OF BULK AT MOST 1048576: true; the input reads as it did. -/
def outworkHasUptoRow : OpenClaim := { program := "ytfnohamcmidgbaa", sum := "115fcb77cc3da630814bae020c985efd85867a058a1ae507c627d7ee861f0daa", func := "panache/panachelaw07.OutworkHas", spec := "outworkHas", unfollowed := true, recurses := true, apart := false, narrowed := true }
def OutworkHasUptoSaid : Prop := outworkHasUptoRow.holds Try.pinned (OpenSpec.upto outworkHasSpec)

/-- 'panachelaw07.OutworkKept', WHERE WHAT IT READS IS OF BULK AT MOST 1048576: true; the input reads as it did. -/
def outworkKeptUptoRow : OpenClaim := { program := "ytfnohamcmidgbaa", sum := "115fcb77cc3da630814bae020c985efd85867a058a1ae507c627d7ee861f0daa", func := "panache/panachelaw07.OutworkKept", spec := "outworkKept", unfollowed := true, recurses := true, apart := false, narrowed := true }
def OutworkKeptUptoSaid : Prop := outworkKeptUptoRow.holds Try.pinned (OpenSpec.upto outworkKeptSpec)

/-- 'panachelaw07.OutworkFans', WHERE WHAT IT READS IS OF BULK AT MOST 1048576: true; the input reads as it did. -/
def outworkFansUptoRow : OpenClaim := { program := "ytfnohamcmidgbaa", sum := "115fcb77cc3da630814bae020c985efd85867a058a1ae507c627d7ee861f0daa", func := "panache/panachelaw07.OutworkFans", spec := "outworkFans", unfollowed := true, recurses := true, apart := false, narrowed := true }
def OutworkFansUptoSaid : Prop := outworkFansUptoRow.holds Try.pinned (OpenSpec.upto outworkFansSpec)

/-- 'panachelaw07.OutworkGives', WHERE WHAT IT READS IS OF BULK AT MOST 1048576: true; the input reads as it did. -/
def outworkGivesUptoRow : OpenClaim := { program := "ytfnohamcmidgbaa", sum := "115fcb77cc3da630814bae020c985efd85867a058a1ae507c627d7ee861f0daa", func := "panache/panachelaw07.OutworkGives", spec := "outworkGives", unfollowed := true, recurses := true, apart := false, narrowed := true }
def OutworkGivesUptoSaid : Prop := outworkGivesUptoRow.holds Try.pinned (OpenSpec.upto outworkGivesSpec)

/-- 'panachelaw07.OutworkWrongs', WHERE WHAT IT READS IS OF BULK AT MOST 1048576: true; the input reads as it did. -/
def outworkWrongsUptoRow : OpenClaim := { program := "ytfnohamcmidgbaa", sum := "115fcb77cc3da630814bae020c985efd85867a058a1ae507c627d7ee861f0daa", func := "panache/panachelaw07.OutworkWrongs", spec := "outworkWrongs", unfollowed := true, recurses := true, apart := false, narrowed := true }
def OutworkWrongsUptoSaid : Prop := outworkWrongsUptoRow.holds Try.pinned (OpenSpec.upto outworkWrongsSpec)

/-- 'panachelaw07.OutworkBlames', WHERE WHAT IT READS IS OF BULK AT MOST 1048576: true; the input reads as it did. -/
def outworkBlamesUptoRow : OpenClaim := { program := "ytfnohamcmidgbaa", sum := "115fcb77cc3da630814bae020c985efd85867a058a1ae507c627d7ee861f0daa", func := "panache/panachelaw07.OutworkBlames", spec := "outworkBlames", unfollowed := true, recurses := true, apart := false, narrowed := true }
def OutworkBlamesUptoSaid : Prop := outworkBlamesUptoRow.holds Try.pinned (OpenSpec.upto outworkBlamesSpec)

/-- 'panachelaw07.OutworkSettles', WHERE WHAT IT READS IS OF BULK AT MOST 1048576: true; the input reads as it did. -/
def outworkSettlesUptoRow : OpenClaim := { program := "ytfnohamcmidgbaa", sum := "115fcb77cc3da630814bae020c985efd85867a058a1ae507c627d7ee861f0daa", func := "panache/panachelaw07.OutworkSettles", spec := "outworkSettles", unfollowed := true, recurses := true, apart := false, narrowed := true }
def OutworkSettlesUptoSaid : Prop := outworkSettlesUptoRow.holds Try.pinned (OpenSpec.upto outworkSettlesSpec)

/-- 'panachelaw07.OutworkMoves', WHERE WHAT IT READS IS OF BULK AT MOST 1048576: true; the input reads as it did. -/
def outworkMovesUptoRow : OpenClaim := { program := "ytfnohamcmidgbaa", sum := "115fcb77cc3da630814bae020c985efd85867a058a1ae507c627d7ee861f0daa", func := "panache/panachelaw07.OutworkMoves", spec := "outworkMoves", unfollowed := true, recurses := true, apart := false, narrowed := true }
def OutworkMovesUptoSaid : Prop := outworkMovesUptoRow.holds Try.pinned (OpenSpec.upto outworkMovesSpec)

/-- 'panachelaw07.OutworkLies', WHERE WHAT IT READS IS OF BULK AT MOST 1048576: true; the input reads as it did. -/
def outworkLiesUptoRow : OpenClaim := { program := "ytfnohamcmidgbaa", sum := "115fcb77cc3da630814bae020c985efd85867a058a1ae507c627d7ee861f0daa", func := "panache/panachelaw07.OutworkLies", spec := "outworkLies", unfollowed := true, recurses := true, apart := false, narrowed := true }
def OutworkLiesUptoSaid : Prop := outworkLiesUptoRow.holds Try.pinned (OpenSpec.upto outworkLiesSpec)

end Rows
end Go.Proofs.Ytfnohamcmidgbaa
