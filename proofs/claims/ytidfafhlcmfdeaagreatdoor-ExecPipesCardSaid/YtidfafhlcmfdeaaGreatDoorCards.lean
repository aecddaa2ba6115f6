/-
  DERIVED. GIVEN WITH THE SEED: THE CARDS: each row of YtidfafhlcmfdeaaGreatDoorRows.lean that lists a variable, with what it lists TIED to the program's text (the seventh form; the later family's looks); each row that meets fmt, with fmt's text TOLD by the authors' own Lean function (tested against real Go, not proved from fmt's source: count such statements apart). THE CARD IS WHAT COUNTS. Prove the row's statement (the work); the ties are given (YtidfafhlcmfdeaaGreatDoorTie.lean); close each card by the builder's one call (the guide's Derived/Test/ToyasCard.lean, 'card_holds'). Laid BY PROGRAM, IN A SANDBOX (cutbox-door.mjs). By AI agents, Wed Nov 11 2026. No macro, syntax, notation, axiom, sorry.
-/
import Derived.Test.YtidfafhlcmfdeaaGreatDoorRows
import GoSem.ClaimSeven
namespace Go.Proofs.YtidfafhlcmfdeaaGreatDoor
namespace Rows

/-- THE TIED CARD OF 'quartermasterlaw16.ExecNone'. -/
def execNoneCard : Claim7 := { stood := { row := execNoneRow, standIns := [], harness := (true, "d500ad3fe0c4d05cda9a53f8f296d9721995ccfc9d46d16141212da0e1577094"), looks := true }, kinds := [], alts := [], laidByText := true, laidKinds := [.pinned, .data, .data, .listed, .data, .data, .data, .sentinel, .sentinel], laidTests := true, laidLooks := .later }
def ExecNoneCardSaid : Prop := Claim7.holds Tryz.pinned (.plain (OpenSpec.ofChange execNoneSpec)) execNoneCard

/-- THE TIED CARD OF 'quartermasterlaw16.ExecShells'. -/
def execShellsCard : Claim7 := { stood := { row := execShellsRow, standIns := [], harness := (true, "d500ad3fe0c4d05cda9a53f8f296d9721995ccfc9d46d16141212da0e1577094"), looks := true }, kinds := [], alts := [], laidByText := true, laidKinds := [.pinned, .data, .data, .listed, .data, .data, .data, .sentinel, .sentinel], laidTests := true, laidLooks := .later }
def ExecShellsCardSaid : Prop := Claim7.holds Tryz.pinned (.plain (OpenSpec.ofChange execShellsSpec)) execShellsCard

/-- THE TIED CARD OF 'quartermasterlaw16.ExecPipes'. -/
def execPipesCard : Claim7 := { stood := { row := execPipesRow, standIns := [], harness := (true, "d500ad3fe0c4d05cda9a53f8f296d9721995ccfc9d46d16141212da0e1577094"), looks := true }, kinds := [], alts := [], laidByText := true, laidKinds := [.pinned, .data, .data, .listed, .data, .data, .data, .sentinel, .sentinel], laidTests := true, laidLooks := .later }
def ExecPipesCardSaid : Prop := Claim7.holds Tryz.pinned (.plain (OpenSpec.ofChange execPipesSpec)) execPipesCard

/-- THE TIED CARD OF 'quartermasterlaw16.ExecStops'. -/
def execStopsCard : Claim7 := { stood := { row := execStopsRow, standIns := [], harness := (true, "d500ad3fe0c4d05cda9a53f8f296d9721995ccfc9d46d16141212da0e1577094"), looks := true }, kinds := [], alts := [], laidByText := true, laidKinds := [.pinned, .data, .data, .listed, .data, .data, .data, .sentinel, .sentinel], laidTests := true, laidLooks := .later }
def ExecStopsCardSaid : Prop := Claim7.holds Tryz.pinned (.plain (OpenSpec.ofChange execStopsSpec)) execStopsCard

/-- THE SECOND FORM's CARD OF 'quartermasterlaw16.ExecNone'. -/
def execNoneUptoCard : Claim7 := { stood := { row := execNoneUptoRow, standIns := [], harness := (true, "d500ad3fe0c4d05cda9a53f8f296d9721995ccfc9d46d16141212da0e1577094"), looks := true }, kinds := [], alts := [], laidByText := true, laidKinds := [.pinned, .data, .data, .listed, .data, .data, .data, .sentinel, .sentinel], laidTests := true, laidLooks := .later }
def ExecNoneUptoCardSaid : Prop := Claim7.holds Tryz.pinned (.plain (OpenSpec.upto execNoneSpec)) execNoneUptoCard

/-- THE SECOND FORM's CARD OF 'quartermasterlaw16.ExecShells'. -/
def execShellsUptoCard : Claim7 := { stood := { row := execShellsUptoRow, standIns := [], harness := (true, "d500ad3fe0c4d05cda9a53f8f296d9721995ccfc9d46d16141212da0e1577094"), looks := true }, kinds := [], alts := [], laidByText := true, laidKinds := [.pinned, .data, .data, .listed, .data, .data, .data, .sentinel, .sentinel], laidTests := true, laidLooks := .later }
def ExecShellsUptoCardSaid : Prop := Claim7.holds Tryz.pinned (.plain (OpenSpec.upto execShellsSpec)) execShellsUptoCard

/-- THE SECOND FORM's CARD OF 'quartermasterlaw16.ExecPipes'. -/
def execPipesUptoCard : Claim7 := { stood := { row := execPipesUptoRow, standIns := [], harness := (true, "d500ad3fe0c4d05cda9a53f8f296d9721995ccfc9d46d16141212da0e1577094"), looks := true }, kinds := [], alts := [], laidByText := true, laidKinds := [.pinned, .data, .data, .listed, .data, .data, .data, .sentinel, .sentinel], laidTests := true, laidLooks := .later }
def ExecPipesUptoCardSaid : Prop := Claim7.holds Tryz.pinned (.plain (OpenSpec.upto execPipesSpec)) execPipesUptoCard

/-- THE SECOND FORM's CARD OF 'quartermasterlaw16.ExecStops'. -/
def execStopsUptoCard : Claim7 := { stood := { row := execStopsUptoRow, standIns := [], harness := (true, "d500ad3fe0c4d05cda9a53f8f296d9721995ccfc9d46d16141212da0e1577094"), looks := true }, kinds := [], alts := [], laidByText := true, laidKinds := [.pinned, .data, .data, .listed, .data, .data, .data, .sentinel, .sentinel], laidTests := true, laidLooks := .later }
def ExecStopsUptoCardSaid : Prop := Claim7.holds Tryz.pinned (.plain (OpenSpec.upto execStopsSpec)) execStopsUptoCard
end Rows
end Go.Proofs.YtidfafhlcmfdeaaGreatDoor
