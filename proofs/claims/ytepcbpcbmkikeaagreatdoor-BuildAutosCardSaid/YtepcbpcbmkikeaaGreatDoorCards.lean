/-
  DERIVED. GIVEN WITH THE SEED: THE CARDS: each row of YtepcbpcbmkikeaaGreatDoorRows.lean that lists a variable, with what it lists TIED to the program's text (the seventh form; the later family's looks); each row that meets fmt, with fmt's text TOLD by the authors' own Lean function (tested against real Go, not proved from fmt's source: count such statements apart). THE CARD IS WHAT COUNTS. Prove the row's statement (the work); the ties are given (YtepcbpcbmkikeaaGreatDoorTie.lean); close each card by the builder's one call (the guide's Derived/Test/ToyasCard.lean, 'card_holds'). Laid BY PROGRAM, IN A SANDBOX (cutbox-door.mjs). By AI agents, Wed Nov 11 2026. No macro, syntax, notation, axiom, sorry.
-/
import Derived.Test.YtepcbpcbmkikeaaGreatDoorRows
import GoSem.ClaimSeven
namespace Go.Proofs.YtepcbpcbmkikeaaGreatDoor
namespace Rows

/-- THE TIED CARD OF 'quartermasterlaw24.BuildPrefixes'. -/
def buildPrefixesCard : Claim7 := { stood := { row := buildPrefixesRow, standIns := [], harness := (true, "a8ff6be4fd5cd9d5c5dd8e1c123853d524c286d16a869f77d232d11aab2cdc15"), looks := true }, kinds := [], alts := [], laidByText := true, laidKinds := [.pinned, .data, .data, .data, .data, .data, .listed, .sentinel, .sentinel], laidTests := true, laidLooks := .later }
def BuildPrefixesCardSaid : Prop := Claim7.holds Tryz.pinned (.plain (OpenSpec.ofChange buildPrefixesSpec)) buildPrefixesCard

/-- THE TIED CARD OF 'quartermasterlaw24.BuildDeletes'. -/
def buildDeletesCard : Claim7 := { stood := { row := buildDeletesRow, standIns := [], harness := (true, "a8ff6be4fd5cd9d5c5dd8e1c123853d524c286d16a869f77d232d11aab2cdc15"), looks := true }, kinds := [], alts := [], laidByText := true, laidKinds := [.pinned, .data, .data, .data, .data, .data, .listed, .sentinel, .sentinel], laidTests := true, laidLooks := .later }
def BuildDeletesCardSaid : Prop := Claim7.holds Tryz.pinned (.plain (OpenSpec.ofChange buildDeletesSpec)) buildDeletesCard

/-- THE TIED CARD OF 'quartermasterlaw24.BuildAutos'. -/
def buildAutosCard : Claim7 := { stood := { row := buildAutosRow, standIns := [], harness := (true, "a8ff6be4fd5cd9d5c5dd8e1c123853d524c286d16a869f77d232d11aab2cdc15"), looks := true }, kinds := [], alts := [], laidByText := true, laidKinds := [.pinned, .data, .data, .data, .data, .data, .listed, .sentinel, .sentinel], laidTests := true, laidLooks := .later }
def BuildAutosCardSaid : Prop := Claim7.holds Tryz.pinned (.plain (OpenSpec.ofChange buildAutosSpec)) buildAutosCard

/-- THE TIED CARD OF 'quartermasterlaw24.BuildRings'. -/
def buildRingsCard : Claim7 := { stood := { row := buildRingsRow, standIns := [], harness := (true, "a8ff6be4fd5cd9d5c5dd8e1c123853d524c286d16a869f77d232d11aab2cdc15"), looks := true }, kinds := [], alts := [], laidByText := true, laidKinds := [.pinned, .data, .data, .data, .data, .data, .listed, .sentinel, .sentinel], laidTests := true, laidLooks := .later }
def BuildRingsCardSaid : Prop := Claim7.holds Tryz.pinned (.plain (OpenSpec.ofChange buildRingsSpec)) buildRingsCard

/-- THE TIED CARD OF 'quartermasterlaw25.MakeNames'. -/
def makeNamesCard : Claim7 := { stood := { row := makeNamesRow, standIns := [], harness := (true, "a8ff6be4fd5cd9d5c5dd8e1c123853d524c286d16a869f77d232d11aab2cdc15"), looks := true }, kinds := [], alts := [], laidByText := true, laidKinds := [.pinned, .data, .data, .data, .data, .data, .listed, .sentinel, .sentinel], laidTests := true, laidLooks := .later }
def MakeNamesCardSaid : Prop := Claim7.holds Tryz.pinned (.plain (OpenSpec.ofChange makeNamesSpec)) makeNamesCard

/-- THE SECOND FORM's CARD OF 'quartermasterlaw24.BuildPrefixes'. -/
def buildPrefixesUptoCard : Claim7 := { stood := { row := buildPrefixesUptoRow, standIns := [], harness := (true, "a8ff6be4fd5cd9d5c5dd8e1c123853d524c286d16a869f77d232d11aab2cdc15"), looks := true }, kinds := [], alts := [], laidByText := true, laidKinds := [.pinned, .data, .data, .data, .data, .data, .listed, .sentinel, .sentinel], laidTests := true, laidLooks := .later }
def BuildPrefixesUptoCardSaid : Prop := Claim7.holds Tryz.pinned (.plain (OpenSpec.upto buildPrefixesSpec)) buildPrefixesUptoCard

/-- THE SECOND FORM's CARD OF 'quartermasterlaw24.BuildDeletes'. -/
def buildDeletesUptoCard : Claim7 := { stood := { row := buildDeletesUptoRow, standIns := [], harness := (true, "a8ff6be4fd5cd9d5c5dd8e1c123853d524c286d16a869f77d232d11aab2cdc15"), looks := true }, kinds := [], alts := [], laidByText := true, laidKinds := [.pinned, .data, .data, .data, .data, .data, .listed, .sentinel, .sentinel], laidTests := true, laidLooks := .later }
def BuildDeletesUptoCardSaid : Prop := Claim7.holds Tryz.pinned (.plain (OpenSpec.upto buildDeletesSpec)) buildDeletesUptoCard

/-- THE SECOND FORM's CARD OF 'quartermasterlaw24.BuildAutos'. -/
def buildAutosUptoCard : Claim7 := { stood := { row := buildAutosUptoRow, standIns := [], harness := (true, "a8ff6be4fd5cd9d5c5dd8e1c123853d524c286d16a869f77d232d11aab2cdc15"), looks := true }, kinds := [], alts := [], laidByText := true, laidKinds := [.pinned, .data, .data, .data, .data, .data, .listed, .sentinel, .sentinel], laidTests := true, laidLooks := .later }
def BuildAutosUptoCardSaid : Prop := Claim7.holds Tryz.pinned (.plain (OpenSpec.upto buildAutosSpec)) buildAutosUptoCard

/-- THE SECOND FORM's CARD OF 'quartermasterlaw24.BuildRings'. -/
def buildRingsUptoCard : Claim7 := { stood := { row := buildRingsUptoRow, standIns := [], harness := (true, "a8ff6be4fd5cd9d5c5dd8e1c123853d524c286d16a869f77d232d11aab2cdc15"), looks := true }, kinds := [], alts := [], laidByText := true, laidKinds := [.pinned, .data, .data, .data, .data, .data, .listed, .sentinel, .sentinel], laidTests := true, laidLooks := .later }
def BuildRingsUptoCardSaid : Prop := Claim7.holds Tryz.pinned (.plain (OpenSpec.upto buildRingsSpec)) buildRingsUptoCard

/-- THE SECOND FORM's CARD OF 'quartermasterlaw25.MakeNames'. -/
def makeNamesUptoCard : Claim7 := { stood := { row := makeNamesUptoRow, standIns := [], harness := (true, "a8ff6be4fd5cd9d5c5dd8e1c123853d524c286d16a869f77d232d11aab2cdc15"), looks := true }, kinds := [], alts := [], laidByText := true, laidKinds := [.pinned, .data, .data, .data, .data, .data, .listed, .sentinel, .sentinel], laidTests := true, laidLooks := .later }
def MakeNamesUptoCardSaid : Prop := Claim7.holds Tryz.pinned (.plain (OpenSpec.upto makeNamesSpec)) makeNamesUptoCard
end Rows
end Go.Proofs.YtepcbpcbmkikeaaGreatDoor
