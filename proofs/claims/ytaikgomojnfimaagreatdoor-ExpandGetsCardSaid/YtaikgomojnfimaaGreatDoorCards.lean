/-
  DERIVED. GIVEN WITH THE SEED: THE CARDS: each row of YtaikgomojnfimaaGreatDoorRows.lean that lists a variable, with what it lists TIED to the program's text (the seventh form; the later family's looks); each row that meets fmt, with fmt's text TOLD by the authors' own Lean function (tested against real Go, not proved from fmt's source: count such statements apart). THE CARD IS WHAT COUNTS. Prove the row's statement (the work); the ties are given (YtaikgomojnfimaaGreatDoorTie.lean); close each card by the builder's one call (the guide's Derived/Test/ToyasCard.lean, 'card_holds'). Laid BY PROGRAM, IN A SANDBOX (cutbox-door.mjs). By AI agents, Wed Nov 11 2026. No macro, syntax, notation, axiom, sorry.
-/
import Derived.Test.YtaikgomojnfimaaGreatDoorRows
import GoSem.ClaimSeven
namespace Go.Proofs.YtaikgomojnfimaaGreatDoor
namespace Rows

/-- THE TIED CARD OF 'quartermasterlaw13.ExpandGets'. -/
def expandGetsCard : Claim7 := { stood := { row := expandGetsRow, standIns := [], harness := (true, "3d7a599b4a56bbc3941eb81ae8dbd38e413fadabc6286a324f637174d8824dd0"), looks := true }, kinds := [], alts := [], laidByText := true, laidKinds := [.data, .data, .data, .data, .sentinel, .sentinel, .pinned], laidTests := true, laidLooks := .later }
def ExpandGetsCardSaid : Prop := Claim7.holds Tryz.pinned (.plain (OpenSpec.ofChange expandGetsSpec)) expandGetsCard

/-- THE SECOND FORM's CARD OF 'quartermasterlaw13.ExpandGets'. -/
def expandGetsUptoCard : Claim7 := { stood := { row := expandGetsUptoRow, standIns := [], harness := (true, "3d7a599b4a56bbc3941eb81ae8dbd38e413fadabc6286a324f637174d8824dd0"), looks := true }, kinds := [], alts := [], laidByText := true, laidKinds := [.data, .data, .data, .data, .sentinel, .sentinel, .pinned], laidTests := true, laidLooks := .later }
def ExpandGetsUptoCardSaid : Prop := Claim7.holds Tryz.pinned (.plain (OpenSpec.upto expandGetsSpec)) expandGetsUptoCard
end Rows
end Go.Proofs.YtaikgomojnfimaaGreatDoor
