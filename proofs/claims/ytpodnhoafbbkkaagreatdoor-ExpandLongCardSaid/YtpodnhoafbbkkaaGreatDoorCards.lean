/-
  DERIVED. GIVEN WITH THE SEED: THE CARDS: each row of YtpodnhoafbbkkaaGreatDoorRows.lean that lists a variable, with what it lists TIED to the program's text (the seventh form; the later family's looks); each row that meets fmt, with fmt's text TOLD by the authors' own Lean function (tested against real Go, not proved from fmt's source: count such statements apart). THE CARD IS WHAT COUNTS. Prove the row's statement (the work); the ties are given (YtpodnhoafbbkkaaGreatDoorTie.lean); close each card by the builder's one call (the guide's Derived/Test/ToyasCard.lean, 'card_holds'). Laid BY PROGRAM, IN A SANDBOX (cutbox-door.mjs). By AI agents, Wed Nov 11 2026. No macro, syntax, notation, axiom, sorry.
-/
import Derived.Test.YtpodnhoafbbkkaaGreatDoorRows
import GoSem.ClaimSeven
namespace Go.Proofs.YtpodnhoafbbkkaaGreatDoor
namespace Rows

/-- THE TIED CARD OF 'quartermasterlaw13.ExpandLong'. -/
def expandLongCard : Claim7 := { stood := { row := expandLongRow, standIns := [], harness := (true, "9044774308f6356c43782ca36e5e622825483f2efe8b415a3022c70a704efb16"), looks := true }, kinds := [], alts := [], laidByText := true, laidKinds := [.data, .data, .data, .data, .sentinel, .sentinel, .pinned], laidTests := true, laidLooks := .later }
def ExpandLongCardSaid : Prop := Claim7.holds Tryz.pinned (.plain (OpenSpec.ofChange expandLongSpec)) expandLongCard

/-- THE SECOND FORM's CARD OF 'quartermasterlaw13.ExpandLong'. -/
def expandLongUptoCard : Claim7 := { stood := { row := expandLongUptoRow, standIns := [], harness := (true, "9044774308f6356c43782ca36e5e622825483f2efe8b415a3022c70a704efb16"), looks := true }, kinds := [], alts := [], laidByText := true, laidKinds := [.data, .data, .data, .data, .sentinel, .sentinel, .pinned], laidTests := true, laidLooks := .later }
def ExpandLongUptoCardSaid : Prop := Claim7.holds Tryz.pinned (.plain (OpenSpec.upto expandLongSpec)) expandLongUptoCard
end Rows
end Go.Proofs.YtpodnhoafbbkkaaGreatDoor
