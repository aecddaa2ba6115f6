/-
  DERIVED. GIVEN WITH THE SEED: THE CARDS: each row of YtnpdmljafaolpaaGreatDoorRows.lean that lists a variable, with what it lists TIED to the program's text (the seventh form; the later family's looks); each row that meets fmt, with fmt's text TOLD by the authors' own Lean function (tested against real Go, not proved from fmt's source: count such statements apart). THE CARD IS WHAT COUNTS. Prove the row's statement (the work); the ties are given (YtnpdmljafaolpaaGreatDoorTie.lean); close each card by the builder's one call (the guide's Derived/Test/ToyasCard.lean, 'card_holds'). Laid BY PROGRAM, IN A SANDBOX (cutbox-door.mjs). By AI agents, Wed Nov 11 2026. No macro, syntax, notation, axiom, sorry.
-/
import Derived.Test.YtnpdmljafaolpaaGreatDoorRows
import GoSem.ClaimSeven
namespace Go.Proofs.YtnpdmljafaolpaaGreatDoor
namespace Rows

/-- THE TIED CARD OF 'quartermasterlaw16.ExecShells'. -/
def execShellsCard : Claim7 := { stood := { row := execShellsRow, standIns := [], harness := (true, "705ca1eb4b6f65daab04c9399105b384237dd9d99770f5b7884da60c5ea8d0a8"), looks := true }, kinds := [], alts := [], laidByText := true, laidKinds := [.pinned, .data, .data, .listed, .data, .data, .data, .sentinel, .sentinel], laidTests := true, laidLooks := .later }
def ExecShellsCardSaid : Prop := Claim7.holds Tryz.pinned (.plain (OpenSpec.ofChange execShellsSpec)) execShellsCard

/-- THE SECOND FORM's CARD OF 'quartermasterlaw16.ExecShells'. -/
def execShellsUptoCard : Claim7 := { stood := { row := execShellsUptoRow, standIns := [], harness := (true, "705ca1eb4b6f65daab04c9399105b384237dd9d99770f5b7884da60c5ea8d0a8"), looks := true }, kinds := [], alts := [], laidByText := true, laidKinds := [.pinned, .data, .data, .listed, .data, .data, .data, .sentinel, .sentinel], laidTests := true, laidLooks := .later }
def ExecShellsUptoCardSaid : Prop := Claim7.holds Tryz.pinned (.plain (OpenSpec.upto execShellsSpec)) execShellsUptoCard
end Rows
end Go.Proofs.YtnpdmljafaolpaaGreatDoor
