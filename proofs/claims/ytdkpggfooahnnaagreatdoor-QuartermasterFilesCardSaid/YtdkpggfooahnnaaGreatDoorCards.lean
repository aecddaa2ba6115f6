/-
  DERIVED. GIVEN WITH THE SEED: THE CARDS: each row of YtdkpggfooahnnaaGreatDoorRows.lean that lists a variable, with what it lists TIED to the program's text (the seventh form; the later family's looks); each row that meets fmt, with fmt's text TOLD by the authors' own Lean function (tested against real Go, not proved from fmt's source: count such statements apart). THE CARD IS WHAT COUNTS. Prove the row's statement (the work); the ties are given (YtdkpggfooahnnaaGreatDoorTie.lean); close each card by the builder's one call (the guide's Derived/Test/ToyasCard.lean, 'card_holds'). Laid BY PROGRAM, IN A SANDBOX (cutbox-door.mjs). By AI agents, Wed Nov 11 2026. No macro, syntax, notation, axiom, sorry.
-/
import Derived.Test.YtdkpggfooahnnaaGreatDoorRows
import GoSem.ClaimSeven
namespace Go.Proofs.YtdkpggfooahnnaaGreatDoor
namespace Rows

/-- THE TIED CARD OF 'quartermasterlaw28.QuartermasterLong'. -/
def quartermasterLongCard : Claim7 := { stood := { row := quartermasterLongRow, standIns := [], harness := (true, "8b30c1278c6aafdfbeb136c2c2b3e4f8148ee7010c3996f975841ca4e10b5756"), looks := true }, kinds := [], alts := [], laidByText := true, laidKinds := [.pinned, .data, .data, .data, .data, .data, .listed, .sentinel, .sentinel], laidTests := true, laidLooks := .later }
def QuartermasterLongCardSaid : Prop := Claim7.holds Tryz.pinned (.plain (OpenSpec.ofChange quartermasterLongSpec)) quartermasterLongCard

/-- THE TIED CARD OF 'quartermasterlaw28.QuartermasterFiles'. -/
def quartermasterFilesCard : Claim7 := { stood := { row := quartermasterFilesRow, standIns := [], harness := (true, "8b30c1278c6aafdfbeb136c2c2b3e4f8148ee7010c3996f975841ca4e10b5756"), looks := true }, kinds := [], alts := [], laidByText := true, laidKinds := [.pinned, .data, .data, .data, .data, .data, .listed, .sentinel, .sentinel], laidTests := true, laidLooks := .later }
def QuartermasterFilesCardSaid : Prop := Claim7.holds Tryz.pinned (.plain (OpenSpec.ofChange quartermasterFilesSpec)) quartermasterFilesCard

/-- THE TIED CARD OF 'quartermasterlaw28.QuartermasterShell'. -/
def quartermasterShellCard : Claim7 := { stood := { row := quartermasterShellRow, standIns := [], harness := (true, "8b30c1278c6aafdfbeb136c2c2b3e4f8148ee7010c3996f975841ca4e10b5756"), looks := true }, kinds := [], alts := [], laidByText := true, laidKinds := [.pinned, .data, .data, .data, .data, .data, .listed, .sentinel, .sentinel], laidTests := true, laidLooks := .later }
def QuartermasterShellCardSaid : Prop := Claim7.holds Tryz.pinned (.plain (OpenSpec.ofChange quartermasterShellSpec)) quartermasterShellCard

/-- THE SECOND FORM's CARD OF 'quartermasterlaw28.QuartermasterLong'. -/
def quartermasterLongUptoCard : Claim7 := { stood := { row := quartermasterLongUptoRow, standIns := [], harness := (true, "8b30c1278c6aafdfbeb136c2c2b3e4f8148ee7010c3996f975841ca4e10b5756"), looks := true }, kinds := [], alts := [], laidByText := true, laidKinds := [.pinned, .data, .data, .data, .data, .data, .listed, .sentinel, .sentinel], laidTests := true, laidLooks := .later }
def QuartermasterLongUptoCardSaid : Prop := Claim7.holds Tryz.pinned (.plain (OpenSpec.upto quartermasterLongSpec)) quartermasterLongUptoCard

/-- THE SECOND FORM's CARD OF 'quartermasterlaw28.QuartermasterFiles'. -/
def quartermasterFilesUptoCard : Claim7 := { stood := { row := quartermasterFilesUptoRow, standIns := [], harness := (true, "8b30c1278c6aafdfbeb136c2c2b3e4f8148ee7010c3996f975841ca4e10b5756"), looks := true }, kinds := [], alts := [], laidByText := true, laidKinds := [.pinned, .data, .data, .data, .data, .data, .listed, .sentinel, .sentinel], laidTests := true, laidLooks := .later }
def QuartermasterFilesUptoCardSaid : Prop := Claim7.holds Tryz.pinned (.plain (OpenSpec.upto quartermasterFilesSpec)) quartermasterFilesUptoCard

/-- THE SECOND FORM's CARD OF 'quartermasterlaw28.QuartermasterShell'. -/
def quartermasterShellUptoCard : Claim7 := { stood := { row := quartermasterShellUptoRow, standIns := [], harness := (true, "8b30c1278c6aafdfbeb136c2c2b3e4f8148ee7010c3996f975841ca4e10b5756"), looks := true }, kinds := [], alts := [], laidByText := true, laidKinds := [.pinned, .data, .data, .data, .data, .data, .listed, .sentinel, .sentinel], laidTests := true, laidLooks := .later }
def QuartermasterShellUptoCardSaid : Prop := Claim7.holds Tryz.pinned (.plain (OpenSpec.upto quartermasterShellSpec)) quartermasterShellUptoCard
end Rows
end Go.Proofs.YtdkpggfooahnnaaGreatDoor
