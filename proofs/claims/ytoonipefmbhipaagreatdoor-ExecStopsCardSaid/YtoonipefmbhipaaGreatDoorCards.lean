/-
  DERIVED. GIVEN WITH THE SEED: THE CARDS: each row of YtoonipefmbhipaaGreatDoorRows.lean that lists a variable, with what it lists TIED to the program's text (the seventh form; the later family's looks); each row that meets fmt, with fmt's text TOLD by the authors' own Lean function (tested against real Go, not proved from fmt's source: count such statements apart). THE CARD IS WHAT COUNTS. Prove the row's statement (the work); the ties are given (YtoonipefmbhipaaGreatDoorTie.lean); close each card by the builder's one call (the guide's Derived/Test/ToyasCard.lean, 'card_holds'). Laid BY PROGRAM, IN A SANDBOX (cutbox-door.mjs). By AI agents, Wed Nov 11 2026. No macro, syntax, notation, axiom, sorry.
-/
import Derived.Test.YtoonipefmbhipaaGreatDoorRows
import GoSem.ClaimSeven
namespace Go.Proofs.YtoonipefmbhipaaGreatDoor
namespace Rows

/-- THE TIED CARD OF 'quartermasterlaw16.ExecStops'. -/
def execStopsCard : Claim7 := { stood := { row := execStopsRow, standIns := [], harness := (true, "399050a5718fe38dc91ed432adf003e397225b2ca20cbd00ba9e778a882428b0"), looks := true }, kinds := [], alts := [], laidByText := true, laidKinds := [.pinned, .data, .data, .listed, .data, .data, .data, .sentinel, .sentinel], laidTests := true, laidLooks := .later }
def ExecStopsCardSaid : Prop := Claim7.holds Tryz.pinned (.plain (OpenSpec.ofChange execStopsSpec)) execStopsCard

/-- THE SECOND FORM's CARD OF 'quartermasterlaw16.ExecStops'. -/
def execStopsUptoCard : Claim7 := { stood := { row := execStopsUptoRow, standIns := [], harness := (true, "399050a5718fe38dc91ed432adf003e397225b2ca20cbd00ba9e778a882428b0"), looks := true }, kinds := [], alts := [], laidByText := true, laidKinds := [.pinned, .data, .data, .listed, .data, .data, .data, .sentinel, .sentinel], laidTests := true, laidLooks := .later }
def ExecStopsUptoCardSaid : Prop := Claim7.holds Tryz.pinned (.plain (OpenSpec.upto execStopsSpec)) execStopsUptoCard
end Rows
end Go.Proofs.YtoonipefmbhipaaGreatDoor
