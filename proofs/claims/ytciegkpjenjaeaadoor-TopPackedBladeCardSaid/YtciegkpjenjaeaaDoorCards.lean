/-
  DERIVED. GIVEN WITH THE SEED: THE CARDS: each row of YtciegkpjenjaeaaDoorRows.lean that lists a variable, with what it lists TIED to the program's text (the seventh form; the later family's looks); each row that meets fmt, with fmt's text TOLD by the authors' own Lean function (tested against real Go, not proved from fmt's source: count such statements apart). THE CARD IS WHAT COUNTS. Prove the row's statement (the work); the ties are given (YtciegkpjenjaeaaDoorTie.lean); close each card by the builder's one call (the guide's Derived/Test/ToyasCard.lean, 'card_holds'). Laid BY PROGRAM, IN A SANDBOX (cutbox-door.mjs). By AI agents, Wed Nov 11 2026. No macro, syntax, notation, axiom, sorry.
-/
import Derived.Test.YtciegkpjenjaeaaDoorRows
import GoSem.ClaimSeven
namespace Go.Proofs.YtciegkpjenjaeaaDoor
namespace Rows

/-- THE TIED CARD OF 'panachetop.TopPackedBlade'. -/
def topPackedBladeCard : Claim7 := { stood := { row := topPackedBladeRow, standIns := [], harness := (true, "388088b27231082348b8b1da50f71bca9ad7a3011d10fca760863301096b1e75"), looks := false }, kinds := [], alts := [], laidByText := true, laidKinds := [.data], laidTests := true, laidLooks := .later }
def TopPackedBladeCardSaid : Prop := Claim7.holds Tryd.pinned (.plain (OpenSpec.ofChange topPackedBladeSpec)) topPackedBladeCard

/-- THE SECOND FORM's CARD OF 'panachetop.TopPackedBlade'. -/
def topPackedBladeUptoCard : Claim7 := { stood := { row := topPackedBladeUptoRow, standIns := [], harness := (true, "388088b27231082348b8b1da50f71bca9ad7a3011d10fca760863301096b1e75"), looks := false }, kinds := [], alts := [], laidByText := true, laidKinds := [.data], laidTests := true, laidLooks := .later }
def TopPackedBladeUptoCardSaid : Prop := Claim7.holds Tryd.pinned (.plain (OpenSpec.upto topPackedBladeSpec)) topPackedBladeUptoCard
end Rows
end Go.Proofs.YtciegkpjenjaeaaDoor
