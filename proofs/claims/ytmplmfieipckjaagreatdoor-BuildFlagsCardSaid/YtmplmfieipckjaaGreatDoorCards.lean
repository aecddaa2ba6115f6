/-
  DERIVED. GIVEN WITH THE SEED: THE CARDS: each row of YtmplmfieipckjaaGreatDoorRows.lean that lists a variable, with what it lists TIED to the program's text (the seventh form; the later family's looks); each row that meets fmt, with fmt's text TOLD by the authors' own Lean function (tested against real Go, not proved from fmt's source: count such statements apart). THE CARD IS WHAT COUNTS. Prove the row's statement (the work); the ties are given (YtmplmfieipckjaaGreatDoorTie.lean); close each card by the builder's one call (the guide's Derived/Test/ToyasCard.lean, 'card_holds'). Laid BY PROGRAM, IN A SANDBOX (cutbox-door.mjs). By AI agents, Wed Nov 11 2026. No macro, syntax, notation, axiom, sorry.
-/
import Derived.Test.YtmplmfieipckjaaGreatDoorRows
import GoSem.ClaimSeven
namespace Go.Proofs.YtmplmfieipckjaaGreatDoor
namespace Rows

/-- THE TIED CARD OF 'quartermasterlaw24.BuildFlags'. -/
def buildFlagsCard : Claim7 := { stood := { row := buildFlagsRow, standIns := [], harness := (true, "d5309445ccf3ce2bdb0bbc992a79602b0843e62fd84e17c324849e6f1b0338c5"), looks := true }, kinds := [], alts := [], laidByText := true, laidKinds := [.pinned, .data, .data, .data, .data, .data, .listed, .sentinel, .sentinel], laidTests := true, laidLooks := .later }
def BuildFlagsCardSaid : Prop := Claim7.holds Tryz.pinned (.plain (OpenSpec.ofChange buildFlagsSpec)) buildFlagsCard

/-- THE SECOND FORM's CARD OF 'quartermasterlaw24.BuildFlags'. -/
def buildFlagsUptoCard : Claim7 := { stood := { row := buildFlagsUptoRow, standIns := [], harness := (true, "d5309445ccf3ce2bdb0bbc992a79602b0843e62fd84e17c324849e6f1b0338c5"), looks := true }, kinds := [], alts := [], laidByText := true, laidKinds := [.pinned, .data, .data, .data, .data, .data, .listed, .sentinel, .sentinel], laidTests := true, laidLooks := .later }
def BuildFlagsUptoCardSaid : Prop := Claim7.holds Tryz.pinned (.plain (OpenSpec.upto buildFlagsSpec)) buildFlagsUptoCard
end Rows
end Go.Proofs.YtmplmfieipckjaaGreatDoor
