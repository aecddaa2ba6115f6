/-
  DERIVED. GIVEN WITH THE SEED: THE CARDS: each row of YtdblbhbbddkmhaaGreatDoorRows.lean that lists a variable, with what it lists TIED to the program's text (the seventh form; the later family's looks); each row that meets fmt, with fmt's text TOLD by the authors' own Lean function (tested against real Go, not proved from fmt's source: count such statements apart). THE CARD IS WHAT COUNTS. Prove the row's statement (the work); the ties are given (YtdblbhbbddkmhaaGreatDoorTie.lean); close each card by the builder's one call (the guide's Derived/Test/ToyasCard.lean, 'card_holds'). Laid BY PROGRAM, IN A SANDBOX (cutbox-door.mjs). By AI agents, Wed Nov 11 2026. No macro, syntax, notation, axiom, sorry.
-/
import Derived.Test.YtdblbhbbddkmhaaGreatDoorRows
import GoSem.ClaimSeven
namespace Go.Proofs.YtdblbhbbddkmhaaGreatDoor
namespace Rows

/-- THE TIED CARD OF 'quartermasterlaw14.CheckNots'. -/
def checkNotsCard : Claim7 := { stood := { row := checkNotsRow, standIns := [], harness := (true, "29aedec6dc811c0311ffdf7b9c76eba38c5078d4dd1524167c102a514a36e98d"), looks := true }, kinds := [], alts := [], laidByText := true, laidKinds := [.data, .data, .data, .data, .sentinel, .sentinel, .pinned], laidTests := true, laidLooks := .later }
def CheckNotsCardSaid : Prop := Claim7.holds Tryz.pinned (.plain (OpenSpec.ofChange checkNotsSpec)) checkNotsCard

/-- THE SECOND FORM's CARD OF 'quartermasterlaw14.CheckNots'. -/
def checkNotsUptoCard : Claim7 := { stood := { row := checkNotsUptoRow, standIns := [], harness := (true, "29aedec6dc811c0311ffdf7b9c76eba38c5078d4dd1524167c102a514a36e98d"), looks := true }, kinds := [], alts := [], laidByText := true, laidKinds := [.data, .data, .data, .data, .sentinel, .sentinel, .pinned], laidTests := true, laidLooks := .later }
def CheckNotsUptoCardSaid : Prop := Claim7.holds Tryz.pinned (.plain (OpenSpec.upto checkNotsSpec)) checkNotsUptoCard
end Rows
end Go.Proofs.YtdblbhbbddkmhaaGreatDoor
