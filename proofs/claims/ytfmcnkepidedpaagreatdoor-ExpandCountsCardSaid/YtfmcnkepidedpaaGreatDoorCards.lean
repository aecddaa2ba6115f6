/-
  DERIVED. GIVEN WITH THE SEED: THE CARDS: each row of YtfmcnkepidedpaaGreatDoorRows.lean that lists a variable, with what it lists TIED to the program's text (the seventh form; the later family's looks); each row that meets fmt, with fmt's text TOLD by the authors' own Lean function (tested against real Go, not proved from fmt's source: count such statements apart). THE CARD IS WHAT COUNTS. Prove the row's statement (the work); the ties are given (YtfmcnkepidedpaaGreatDoorTie.lean); close each card by the builder's one call (the guide's Derived/Test/ToyasCard.lean, 'card_holds'). Laid BY PROGRAM, IN A SANDBOX (cutbox-door.mjs). By AI agents, Wed Nov 11 2026. No macro, syntax, notation, axiom, sorry.
-/
import Derived.Test.YtfmcnkepidedpaaGreatDoorRows
import GoSem.ClaimSeven
namespace Go.Proofs.YtfmcnkepidedpaaGreatDoor
namespace Rows

/-- THE TIED CARD OF 'quartermasterlaw13.ExpandDefaults'. -/
def expandDefaultsCard : Claim7 := { stood := { row := expandDefaultsRow, standIns := [], harness := (true, "d785e6c88c3989d81d032a2a8d707bef168e1d36b51ef6fc416a835b817a1afa"), looks := true }, kinds := [], alts := [], laidByText := true, laidKinds := [.data, .data, .data, .data, .sentinel, .sentinel, .pinned], laidTests := true, laidLooks := .later }
def ExpandDefaultsCardSaid : Prop := Claim7.holds Tryz.pinned (.plain (OpenSpec.ofChange expandDefaultsSpec)) expandDefaultsCard

/-- THE TIED CARD OF 'quartermasterlaw13.ExpandCounts'. -/
def expandCountsCard : Claim7 := { stood := { row := expandCountsRow, standIns := [], harness := (true, "d785e6c88c3989d81d032a2a8d707bef168e1d36b51ef6fc416a835b817a1afa"), looks := true }, kinds := [], alts := [], laidByText := true, laidKinds := [.data, .data, .data, .data, .sentinel, .sentinel, .pinned], laidTests := true, laidLooks := .later }
def ExpandCountsCardSaid : Prop := Claim7.holds Tryz.pinned (.plain (OpenSpec.ofChange expandCountsSpec)) expandCountsCard

/-- THE SECOND FORM's CARD OF 'quartermasterlaw13.ExpandDefaults'. -/
def expandDefaultsUptoCard : Claim7 := { stood := { row := expandDefaultsUptoRow, standIns := [], harness := (true, "d785e6c88c3989d81d032a2a8d707bef168e1d36b51ef6fc416a835b817a1afa"), looks := true }, kinds := [], alts := [], laidByText := true, laidKinds := [.data, .data, .data, .data, .sentinel, .sentinel, .pinned], laidTests := true, laidLooks := .later }
def ExpandDefaultsUptoCardSaid : Prop := Claim7.holds Tryz.pinned (.plain (OpenSpec.upto expandDefaultsSpec)) expandDefaultsUptoCard

/-- THE SECOND FORM's CARD OF 'quartermasterlaw13.ExpandCounts'. -/
def expandCountsUptoCard : Claim7 := { stood := { row := expandCountsUptoRow, standIns := [], harness := (true, "d785e6c88c3989d81d032a2a8d707bef168e1d36b51ef6fc416a835b817a1afa"), looks := true }, kinds := [], alts := [], laidByText := true, laidKinds := [.data, .data, .data, .data, .sentinel, .sentinel, .pinned], laidTests := true, laidLooks := .later }
def ExpandCountsUptoCardSaid : Prop := Claim7.holds Tryz.pinned (.plain (OpenSpec.upto expandCountsSpec)) expandCountsUptoCard
end Rows
end Go.Proofs.YtfmcnkepidedpaaGreatDoor
