/-
  DERIVED. GIVEN WITH THE SEED: THE CARDS: each row of YtkppbibiaiecnaaGreatDoorRows.lean that lists a variable, with what it lists TIED to the program's text (the seventh form; the later family's looks); each row that meets fmt, with fmt's text TOLD by the authors' own Lean function (tested against real Go, not proved from fmt's source: count such statements apart). THE CARD IS WHAT COUNTS. Prove the row's statement (the work); the ties are given (YtkppbibiaiecnaaGreatDoorTie.lean); close each card by the builder's one call (the guide's Derived/Test/ToyasCard.lean, 'card_holds'). Laid BY PROGRAM, IN A SANDBOX (cutbox-door.mjs). By AI agents, Wed Nov 11 2026. No macro, syntax, notation, axiom, sorry.
-/
import Derived.Test.YtkppbibiaiecnaaGreatDoorRows
import GoSem.ClaimSeven
namespace Go.Proofs.YtkppbibiaiecnaaGreatDoor
namespace Rows

/-- THE TIED CARD OF 'quartermasterlaw15.ToolsEcho'. -/
def toolsEchoCard : Claim7 := { stood := { row := toolsEchoRow, standIns := [], harness := (true, "0a9c90bfd90aa32757cd1413d4a7ddbb7d4312981c5d94d2dc3ae137698e6218"), looks := true }, kinds := [], alts := [], laidByText := true, laidKinds := [.data, .data, .data, .data, .sentinel, .sentinel, .pinned], laidTests := true, laidLooks := .later }
def ToolsEchoCardSaid : Prop := Claim7.holds Tryz.pinned (.plain (OpenSpec.ofChange toolsEchoSpec)) toolsEchoCard

/-- THE TIED CARD OF 'quartermasterlaw15.ToolsCopy'. -/
def toolsCopyCard : Claim7 := { stood := { row := toolsCopyRow, standIns := [], harness := (true, "0a9c90bfd90aa32757cd1413d4a7ddbb7d4312981c5d94d2dc3ae137698e6218"), looks := true }, kinds := [], alts := [], laidByText := true, laidKinds := [.data, .data, .data, .data, .sentinel, .sentinel, .pinned], laidTests := true, laidLooks := .later }
def ToolsCopyCardSaid : Prop := Claim7.holds Tryz.pinned (.plain (OpenSpec.ofChange toolsCopySpec)) toolsCopyCard

/-- THE SECOND FORM's CARD OF 'quartermasterlaw15.ToolsEcho'. -/
def toolsEchoUptoCard : Claim7 := { stood := { row := toolsEchoUptoRow, standIns := [], harness := (true, "0a9c90bfd90aa32757cd1413d4a7ddbb7d4312981c5d94d2dc3ae137698e6218"), looks := true }, kinds := [], alts := [], laidByText := true, laidKinds := [.data, .data, .data, .data, .sentinel, .sentinel, .pinned], laidTests := true, laidLooks := .later }
def ToolsEchoUptoCardSaid : Prop := Claim7.holds Tryz.pinned (.plain (OpenSpec.upto toolsEchoSpec)) toolsEchoUptoCard

/-- THE SECOND FORM's CARD OF 'quartermasterlaw15.ToolsCopy'. -/
def toolsCopyUptoCard : Claim7 := { stood := { row := toolsCopyUptoRow, standIns := [], harness := (true, "0a9c90bfd90aa32757cd1413d4a7ddbb7d4312981c5d94d2dc3ae137698e6218"), looks := true }, kinds := [], alts := [], laidByText := true, laidKinds := [.data, .data, .data, .data, .sentinel, .sentinel, .pinned], laidTests := true, laidLooks := .later }
def ToolsCopyUptoCardSaid : Prop := Claim7.holds Tryz.pinned (.plain (OpenSpec.upto toolsCopySpec)) toolsCopyUptoCard
end Rows
end Go.Proofs.YtkppbibiaiecnaaGreatDoor
