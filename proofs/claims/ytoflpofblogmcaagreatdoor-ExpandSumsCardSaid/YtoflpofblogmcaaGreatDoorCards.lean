/-
  DERIVED. GIVEN WITH THE SEED: THE CARDS: each row of YtoflpofblogmcaaGreatDoorRows.lean that lists a variable, with what it lists TIED to the program's text (the seventh form; the later family's looks); each row that meets fmt, with fmt's text TOLD by the authors' own Lean function (tested against real Go, not proved from fmt's source: count such statements apart). THE CARD IS WHAT COUNTS. Prove the row's statement (the work); the ties are given (YtoflpofblogmcaaGreatDoorTie.lean); close each card by the builder's one call (the guide's Derived/Test/ToyasCard.lean, 'card_holds'). Laid BY PROGRAM, IN A SANDBOX (cutbox-door.mjs). By AI agents, Wed Nov 11 2026. No macro, syntax, notation, axiom, sorry.
-/
import Derived.Test.YtoflpofblogmcaaGreatDoorRows
import GoSem.ClaimSeven
namespace Go.Proofs.YtoflpofblogmcaaGreatDoor
namespace Rows

/-- THE TIED CARD OF 'quartermasterlaw13.ExpandSums'. -/
def expandSumsCard : Claim7 := { stood := { row := expandSumsRow, standIns := [], harness := (true, "5c2a57163cb709716f9ca7b3a4263c2204e0f6f7f22977926a2c353f1109bb7e"), looks := true }, kinds := [], alts := [], laidByText := true, laidKinds := [.data, .data, .data, .data, .sentinel, .sentinel, .pinned], laidTests := true, laidLooks := .later }
def ExpandSumsCardSaid : Prop := Claim7.holds Tryz.pinned (.plain (OpenSpec.ofChange expandSumsSpec)) expandSumsCard

/-- THE SECOND FORM's CARD OF 'quartermasterlaw13.ExpandSums'. -/
def expandSumsUptoCard : Claim7 := { stood := { row := expandSumsUptoRow, standIns := [], harness := (true, "5c2a57163cb709716f9ca7b3a4263c2204e0f6f7f22977926a2c353f1109bb7e"), looks := true }, kinds := [], alts := [], laidByText := true, laidKinds := [.data, .data, .data, .data, .sentinel, .sentinel, .pinned], laidTests := true, laidLooks := .later }
def ExpandSumsUptoCardSaid : Prop := Claim7.holds Tryz.pinned (.plain (OpenSpec.upto expandSumsSpec)) expandSumsUptoCard
end Rows
end Go.Proofs.YtoflpofblogmcaaGreatDoor
