/-
  DERIVED. GIVEN WITH THE SEED: THE CARDS: each row of YtagfjgbbebdleaaGreatDoorRows.lean that lists a variable, with what it lists TIED to the program's text (the seventh form; the later family's looks); each row that meets fmt, with fmt's text TOLD by the authors' own Lean function (tested against real Go, not proved from fmt's source: count such statements apart). THE CARD IS WHAT COUNTS. Prove the row's statement (the work); the ties are given (YtagfjgbbebdleaaGreatDoorTie.lean); close each card by the builder's one call (the guide's Derived/Test/ToyasCard.lean, 'card_holds'). Laid BY PROGRAM, IN A SANDBOX (cutbox-door.mjs). By AI agents, Wed Nov 11 2026. No macro, syntax, notation, axiom, sorry.
-/
import Derived.Test.YtagfjgbbebdleaaGreatDoorRows
import GoSem.ClaimSeven
namespace Go.Proofs.YtagfjgbbebdleaaGreatDoor
namespace Rows

/-- THE TIED CARD OF 'quartermasterlaw28.QuartermasterWrong'. -/
def quartermasterWrongCard : Claim7 := { stood := { row := quartermasterWrongRow, standIns := [], harness := (true, "1d76c0ce0b6a7e3cd1847eb3dfab3561a5a4191c4b6bd4c4ec964a5953e91693"), looks := true }, kinds := [], alts := [], laidByText := true, laidKinds := [.pinned, .data, .data, .data, .data, .data, .listed, .sentinel, .sentinel], laidTests := true, laidLooks := .later }
def QuartermasterWrongCardSaid : Prop := Claim7.holds Tryz.pinned (.plain (OpenSpec.ofChange quartermasterWrongSpec)) quartermasterWrongCard

/-- THE SECOND FORM's CARD OF 'quartermasterlaw28.QuartermasterWrong'. -/
def quartermasterWrongUptoCard : Claim7 := { stood := { row := quartermasterWrongUptoRow, standIns := [], harness := (true, "1d76c0ce0b6a7e3cd1847eb3dfab3561a5a4191c4b6bd4c4ec964a5953e91693"), looks := true }, kinds := [], alts := [], laidByText := true, laidKinds := [.pinned, .data, .data, .data, .data, .data, .listed, .sentinel, .sentinel], laidTests := true, laidLooks := .later }
def QuartermasterWrongUptoCardSaid : Prop := Claim7.holds Tryz.pinned (.plain (OpenSpec.upto quartermasterWrongSpec)) quartermasterWrongUptoCard
end Rows
end Go.Proofs.YtagfjgbbebdleaaGreatDoor
