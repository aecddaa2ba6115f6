/-
  DERIVED. GIVEN WITH THE SEED: THE CARDS: each row of YtiinlpdophgfjaaGreatDoorRows.lean that lists a variable, with what it lists TIED to the program's text (the seventh form; the later family's looks); each row that meets fmt, with fmt's text TOLD by the authors' own Lean function (tested against real Go, not proved from fmt's source: count such statements apart). THE CARD IS WHAT COUNTS. Prove the row's statement (the work); the ties are given (YtiinlpdophgfjaaGreatDoorTie.lean); close each card by the builder's one call (the guide's Derived/Test/ToyasCard.lean, 'card_holds'). Laid BY PROGRAM, IN A SANDBOX (cutbox-door.mjs). By AI agents, Wed Nov 11 2026. No macro, syntax, notation, axiom, sorry.
-/
import Derived.Test.YtiinlpdophgfjaaGreatDoorRows
import GoSem.ClaimSeven
namespace Go.Proofs.YtiinlpdophgfjaaGreatDoor
namespace Rows

/-- THE TIED CARD OF 'quartermasterlaw15.ToolsPrint'. -/
def toolsPrintCard : Claim7 := { stood := { row := toolsPrintRow, standIns := [], harness := (true, "7bb02ee22b8daabf08f90d34580d9747a1fe6cec78c44e99d02768f3fdb14441"), looks := true }, kinds := [], alts := [], laidByText := true, laidKinds := [.data, .data, .data, .data, .sentinel, .sentinel, .pinned], laidTests := true, laidLooks := .later }
def ToolsPrintCardSaid : Prop := Claim7.holds Tryz.pinned (.plain (OpenSpec.ofChange toolsPrintSpec)) toolsPrintCard

/-- THE SECOND FORM's CARD OF 'quartermasterlaw15.ToolsPrint'. -/
def toolsPrintUptoCard : Claim7 := { stood := { row := toolsPrintUptoRow, standIns := [], harness := (true, "7bb02ee22b8daabf08f90d34580d9747a1fe6cec78c44e99d02768f3fdb14441"), looks := true }, kinds := [], alts := [], laidByText := true, laidKinds := [.data, .data, .data, .data, .sentinel, .sentinel, .pinned], laidTests := true, laidLooks := .later }
def ToolsPrintUptoCardSaid : Prop := Claim7.holds Tryz.pinned (.plain (OpenSpec.upto toolsPrintSpec)) toolsPrintUptoCard
end Rows
end Go.Proofs.YtiinlpdophgfjaaGreatDoor
