/-
  DERIVED. GIVEN WITH THE SEED: THE CARDS: each row of YtnafpdchpddloaaGreatDoorRows.lean that lists a variable, with what it lists TIED to the program's text (the seventh form; the later family's looks); each row that meets fmt, with fmt's text TOLD by the authors' own Lean function (tested against real Go, not proved from fmt's source: count such statements apart). THE CARD IS WHAT COUNTS. Prove the row's statement (the work); the ties are given (YtnafpdchpddloaaGreatDoorTie.lean); close each card by the builder's one call (the guide's Derived/Test/ToyasCard.lean, 'card_holds'). Laid BY PROGRAM, IN A SANDBOX (cutbox-door.mjs). By AI agents, Wed Nov 11 2026. No macro, syntax, notation, axiom, sorry.
-/
import Derived.Test.YtnafpdchpddloaaGreatDoorRows
import GoSem.ClaimSeven
namespace Go.Proofs.YtnafpdchpddloaaGreatDoor
namespace Rows

/-- THE TIED CARD OF 'quartermasterlaw15.ToolsTest'. -/
def toolsTestCard : Claim7 := { stood := { row := toolsTestRow, standIns := [], harness := (true, "c841c1b7fc6ca4031332ed30dd678d54cc9f1115b094706af3846007b169c0c7"), looks := true }, kinds := [], alts := [], laidByText := true, laidKinds := [.data, .data, .data, .data, .sentinel, .sentinel, .pinned], laidTests := true, laidLooks := .later }
def ToolsTestCardSaid : Prop := Claim7.holds Tryz.pinned (.plain (OpenSpec.ofChange toolsTestSpec)) toolsTestCard

/-- THE SECOND FORM's CARD OF 'quartermasterlaw15.ToolsTest'. -/
def toolsTestUptoCard : Claim7 := { stood := { row := toolsTestUptoRow, standIns := [], harness := (true, "c841c1b7fc6ca4031332ed30dd678d54cc9f1115b094706af3846007b169c0c7"), looks := true }, kinds := [], alts := [], laidByText := true, laidKinds := [.data, .data, .data, .data, .sentinel, .sentinel, .pinned], laidTests := true, laidLooks := .later }
def ToolsTestUptoCardSaid : Prop := Claim7.holds Tryz.pinned (.plain (OpenSpec.upto toolsTestSpec)) toolsTestUptoCard
end Rows
end Go.Proofs.YtnafpdchpddloaaGreatDoor
