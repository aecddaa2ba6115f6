/-
  DERIVED. GIVEN WITH THE SEED: THE CARDS: each row of YtbkilngeedbkpaaGreatDoorRows.lean that lists a variable, with what it lists TIED to the program's text (the seventh form; the later family's looks); each row that meets fmt, with fmt's text TOLD by the authors' own Lean function (tested against real Go, not proved from fmt's source: count such statements apart). THE CARD IS WHAT COUNTS. Prove the row's statement (the work); the ties are given (YtbkilngeedbkpaaGreatDoorTie.lean); close each card by the builder's one call (the guide's Derived/Test/ToyasCard.lean, 'card_holds'). Laid BY PROGRAM, IN A SANDBOX (cutbox-door.mjs). By AI agents, Wed Nov 11 2026. No macro, syntax, notation, axiom, sorry.
-/
import Derived.Test.YtbkilngeedbkpaaGreatDoorRows
import GoSem.ClaimSeven
namespace Go.Proofs.YtbkilngeedbkpaaGreatDoor
namespace Rows

/-- THE TIED CARD OF 'quartermasterlaw17.ShellEndless'. -/
def shellEndlessCard : Claim7 := { stood := { row := shellEndlessRow, standIns := [], harness := (true, "ba5e0ceaa5ad6390e9fa035dbb3c7acc46fe81ad9f36b578fd00ec3674cd78ca"), looks := true }, kinds := [], alts := [], laidByText := true, laidKinds := [.data, .listed, .data, .data, .data, .pinned, .data, .sentinel, .sentinel], laidTests := true, laidLooks := .later }
def ShellEndlessCardSaid : Prop := Claim7.holds Tryz.pinned (.plain (OpenSpec.ofChange shellEndlessSpec)) shellEndlessCard

/-- THE TIED CARD OF 'quartermasterlaw25.MakeMacros'. -/
def makeMacrosCard : Claim7 := { stood := { row := makeMacrosRow, standIns := [], harness := (true, "ba5e0ceaa5ad6390e9fa035dbb3c7acc46fe81ad9f36b578fd00ec3674cd78ca"), looks := true }, kinds := [], alts := [], laidByText := true, laidKinds := [.pinned, .data, .data, .data, .data, .data, .listed, .sentinel, .sentinel], laidTests := true, laidLooks := .later }
def MakeMacrosCardSaid : Prop := Claim7.holds Tryz.pinned (.plain (OpenSpec.ofChange makeMacrosSpec)) makeMacrosCard

/-- THE TIED CARD OF 'quartermasterlaw24.BuildFails'. -/
def buildFailsCard : Claim7 := { stood := { row := buildFailsRow, standIns := [], harness := (true, "ba5e0ceaa5ad6390e9fa035dbb3c7acc46fe81ad9f36b578fd00ec3674cd78ca"), looks := true }, kinds := [], alts := [], laidByText := true, laidKinds := [.pinned, .data, .data, .data, .data, .data, .listed, .sentinel, .sentinel], laidTests := true, laidLooks := .later }
def BuildFailsCardSaid : Prop := Claim7.holds Tryz.pinned (.plain (OpenSpec.ofChange buildFailsSpec)) buildFailsCard

/-- THE SECOND FORM's CARD OF 'quartermasterlaw17.ShellEndless'. -/
def shellEndlessUptoCard : Claim7 := { stood := { row := shellEndlessUptoRow, standIns := [], harness := (true, "ba5e0ceaa5ad6390e9fa035dbb3c7acc46fe81ad9f36b578fd00ec3674cd78ca"), looks := true }, kinds := [], alts := [], laidByText := true, laidKinds := [.data, .listed, .data, .data, .data, .pinned, .data, .sentinel, .sentinel], laidTests := true, laidLooks := .later }
def ShellEndlessUptoCardSaid : Prop := Claim7.holds Tryz.pinned (.plain (OpenSpec.upto shellEndlessSpec)) shellEndlessUptoCard

/-- THE SECOND FORM's CARD OF 'quartermasterlaw25.MakeMacros'. -/
def makeMacrosUptoCard : Claim7 := { stood := { row := makeMacrosUptoRow, standIns := [], harness := (true, "ba5e0ceaa5ad6390e9fa035dbb3c7acc46fe81ad9f36b578fd00ec3674cd78ca"), looks := true }, kinds := [], alts := [], laidByText := true, laidKinds := [.pinned, .data, .data, .data, .data, .data, .listed, .sentinel, .sentinel], laidTests := true, laidLooks := .later }
def MakeMacrosUptoCardSaid : Prop := Claim7.holds Tryz.pinned (.plain (OpenSpec.upto makeMacrosSpec)) makeMacrosUptoCard

/-- THE SECOND FORM's CARD OF 'quartermasterlaw24.BuildFails'. -/
def buildFailsUptoCard : Claim7 := { stood := { row := buildFailsUptoRow, standIns := [], harness := (true, "ba5e0ceaa5ad6390e9fa035dbb3c7acc46fe81ad9f36b578fd00ec3674cd78ca"), looks := true }, kinds := [], alts := [], laidByText := true, laidKinds := [.pinned, .data, .data, .data, .data, .data, .listed, .sentinel, .sentinel], laidTests := true, laidLooks := .later }
def BuildFailsUptoCardSaid : Prop := Claim7.holds Tryz.pinned (.plain (OpenSpec.upto buildFailsSpec)) buildFailsUptoCard
end Rows
end Go.Proofs.YtbkilngeedbkpaaGreatDoor
