/-
  DERIVED. GIVEN WITH THE SEED: THE CARDS: each row of YthocoonhoilmdaaGreatDoorRows.lean that lists a variable, with what it lists TIED to the program's text (the seventh form; the later family's looks); each row that meets fmt, with fmt's text TOLD by the authors' own Lean function (tested against real Go, not proved from fmt's source: count such statements apart). THE CARD IS WHAT COUNTS. Prove the row's statement (the work); the ties are given (YthocoonhoilmdaaGreatDoorTie.lean); close each card by the builder's one call (the guide's Derived/Test/ToyasCard.lean, 'card_holds'). Laid BY PROGRAM, IN A SANDBOX (cutbox-door.mjs). By AI agents, Wed Nov 11 2026. No macro, syntax, notation, axiom, sorry.
-/
import Derived.Test.YthocoonhoilmdaaGreatDoorRows
import GoSem.ClaimSeven
namespace Go.Proofs.YthocoonhoilmdaaGreatDoor
namespace Rows

/-- THE TIED CARD OF 'quartermasterlaw15.ToolsCat'. -/
def toolsCatCard : Claim7 := { stood := { row := toolsCatRow, standIns := [], harness := (true, "4453ed2e4cb83ea368189bac7bc7412f29f6521b01581f8f60d97c811efa7359"), looks := true }, kinds := [], alts := [], laidByText := true, laidKinds := [.data, .data, .data, .data, .sentinel, .sentinel, .pinned], laidTests := true, laidLooks := .later }
def ToolsCatCardSaid : Prop := Claim7.holds Tryz.pinned (.plain (OpenSpec.ofChange toolsCatSpec)) toolsCatCard

/-- THE TIED CARD OF 'quartermasterlaw15.ToolsDeep'. -/
def toolsDeepCard : Claim7 := { stood := { row := toolsDeepRow, standIns := [], harness := (true, "4453ed2e4cb83ea368189bac7bc7412f29f6521b01581f8f60d97c811efa7359"), looks := true }, kinds := [], alts := [], laidByText := true, laidKinds := [.data, .data, .data, .data, .sentinel, .sentinel, .pinned], laidTests := true, laidLooks := .later }
def ToolsDeepCardSaid : Prop := Claim7.holds Tryz.pinned (.plain (OpenSpec.ofChange toolsDeepSpec)) toolsDeepCard

/-- THE SECOND FORM's CARD OF 'quartermasterlaw15.ToolsCat'. -/
def toolsCatUptoCard : Claim7 := { stood := { row := toolsCatUptoRow, standIns := [], harness := (true, "4453ed2e4cb83ea368189bac7bc7412f29f6521b01581f8f60d97c811efa7359"), looks := true }, kinds := [], alts := [], laidByText := true, laidKinds := [.data, .data, .data, .data, .sentinel, .sentinel, .pinned], laidTests := true, laidLooks := .later }
def ToolsCatUptoCardSaid : Prop := Claim7.holds Tryz.pinned (.plain (OpenSpec.upto toolsCatSpec)) toolsCatUptoCard

/-- THE SECOND FORM's CARD OF 'quartermasterlaw15.ToolsDeep'. -/
def toolsDeepUptoCard : Claim7 := { stood := { row := toolsDeepUptoRow, standIns := [], harness := (true, "4453ed2e4cb83ea368189bac7bc7412f29f6521b01581f8f60d97c811efa7359"), looks := true }, kinds := [], alts := [], laidByText := true, laidKinds := [.data, .data, .data, .data, .sentinel, .sentinel, .pinned], laidTests := true, laidLooks := .later }
def ToolsDeepUptoCardSaid : Prop := Claim7.holds Tryz.pinned (.plain (OpenSpec.upto toolsDeepSpec)) toolsDeepUptoCard
end Rows
end Go.Proofs.YthocoonhoilmdaaGreatDoor
