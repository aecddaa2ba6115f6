/-
  DERIVED. GIVEN WITH THE SEED: THE CARDS: each row of YtcmnkndbcecbiaaGreatDoorRows.lean that lists a variable, with what it lists TIED to the program's text (the seventh form; the later family's looks); each row that meets fmt, with fmt's text TOLD by the authors' own Lean function (tested against real Go, not proved from fmt's source: count such statements apart). THE CARD IS WHAT COUNTS. Prove the row's statement (the work); the ties are given (YtcmnkndbcecbiaaGreatDoorTie.lean); close each card by the builder's one call (the guide's Derived/Test/ToyasCard.lean, 'card_holds'). Laid BY PROGRAM, IN A SANDBOX (cutbox-door.mjs). By AI agents, Wed Nov 11 2026. No macro, syntax, notation, axiom, sorry.
-/
import Derived.Test.YtcmnkndbcecbiaaGreatDoorRows
import GoSem.ClaimSeven
namespace Go.Proofs.YtcmnkndbcecbiaaGreatDoor
namespace Rows

/-- THE TIED CARD OF 'quartermasterlaw16.ExecFiles'. -/
def execFilesCard : Claim7 := { stood := { row := execFilesRow, standIns := [], harness := (true, "a98033ebe928cc240e1c09b08b4f3fc83d8751f6ef36e5c3a561ce5267508344"), looks := true }, kinds := [], alts := [], laidByText := true, laidKinds := [.pinned, .data, .data, .listed, .data, .data, .data, .sentinel, .sentinel], laidTests := true, laidLooks := .later }
def ExecFilesCardSaid : Prop := Claim7.holds Tryz.pinned (.plain (OpenSpec.ofChange execFilesSpec)) execFilesCard

/-- THE TIED CARD OF 'quartermasterlaw16.ExecWords'. -/
def execWordsCard : Claim7 := { stood := { row := execWordsRow, standIns := [], harness := (true, "a98033ebe928cc240e1c09b08b4f3fc83d8751f6ef36e5c3a561ce5267508344"), looks := true }, kinds := [], alts := [], laidByText := true, laidKinds := [.pinned, .data, .data, .listed, .data, .data, .data, .sentinel, .sentinel], laidTests := true, laidLooks := .later }
def ExecWordsCardSaid : Prop := Claim7.holds Tryz.pinned (.plain (OpenSpec.ofChange execWordsSpec)) execWordsCard

/-- THE TIED CARD OF 'quartermasterlaw16.ExecCalls'. -/
def execCallsCard : Claim7 := { stood := { row := execCallsRow, standIns := [], harness := (true, "a98033ebe928cc240e1c09b08b4f3fc83d8751f6ef36e5c3a561ce5267508344"), looks := true }, kinds := [], alts := [], laidByText := true, laidKinds := [.pinned, .data, .data, .listed, .data, .data, .data, .sentinel, .sentinel], laidTests := true, laidLooks := .later }
def ExecCallsCardSaid : Prop := Claim7.holds Tryz.pinned (.plain (OpenSpec.ofChange execCallsSpec)) execCallsCard

/-- THE TIED CARD OF 'quartermasterlaw16.ExecTemps'. -/
def execTempsCard : Claim7 := { stood := { row := execTempsRow, standIns := [], harness := (true, "a98033ebe928cc240e1c09b08b4f3fc83d8751f6ef36e5c3a561ce5267508344"), looks := true }, kinds := [], alts := [], laidByText := true, laidKinds := [.pinned, .data, .data, .listed, .data, .data, .data, .sentinel, .sentinel], laidTests := true, laidLooks := .later }
def ExecTempsCardSaid : Prop := Claim7.holds Tryz.pinned (.plain (OpenSpec.ofChange execTempsSpec)) execTempsCard

/-- THE SECOND FORM's CARD OF 'quartermasterlaw16.ExecFiles'. -/
def execFilesUptoCard : Claim7 := { stood := { row := execFilesUptoRow, standIns := [], harness := (true, "a98033ebe928cc240e1c09b08b4f3fc83d8751f6ef36e5c3a561ce5267508344"), looks := true }, kinds := [], alts := [], laidByText := true, laidKinds := [.pinned, .data, .data, .listed, .data, .data, .data, .sentinel, .sentinel], laidTests := true, laidLooks := .later }
def ExecFilesUptoCardSaid : Prop := Claim7.holds Tryz.pinned (.plain (OpenSpec.upto execFilesSpec)) execFilesUptoCard

/-- THE SECOND FORM's CARD OF 'quartermasterlaw16.ExecWords'. -/
def execWordsUptoCard : Claim7 := { stood := { row := execWordsUptoRow, standIns := [], harness := (true, "a98033ebe928cc240e1c09b08b4f3fc83d8751f6ef36e5c3a561ce5267508344"), looks := true }, kinds := [], alts := [], laidByText := true, laidKinds := [.pinned, .data, .data, .listed, .data, .data, .data, .sentinel, .sentinel], laidTests := true, laidLooks := .later }
def ExecWordsUptoCardSaid : Prop := Claim7.holds Tryz.pinned (.plain (OpenSpec.upto execWordsSpec)) execWordsUptoCard

/-- THE SECOND FORM's CARD OF 'quartermasterlaw16.ExecCalls'. -/
def execCallsUptoCard : Claim7 := { stood := { row := execCallsUptoRow, standIns := [], harness := (true, "a98033ebe928cc240e1c09b08b4f3fc83d8751f6ef36e5c3a561ce5267508344"), looks := true }, kinds := [], alts := [], laidByText := true, laidKinds := [.pinned, .data, .data, .listed, .data, .data, .data, .sentinel, .sentinel], laidTests := true, laidLooks := .later }
def ExecCallsUptoCardSaid : Prop := Claim7.holds Tryz.pinned (.plain (OpenSpec.upto execCallsSpec)) execCallsUptoCard

/-- THE SECOND FORM's CARD OF 'quartermasterlaw16.ExecTemps'. -/
def execTempsUptoCard : Claim7 := { stood := { row := execTempsUptoRow, standIns := [], harness := (true, "a98033ebe928cc240e1c09b08b4f3fc83d8751f6ef36e5c3a561ce5267508344"), looks := true }, kinds := [], alts := [], laidByText := true, laidKinds := [.pinned, .data, .data, .listed, .data, .data, .data, .sentinel, .sentinel], laidTests := true, laidLooks := .later }
def ExecTempsUptoCardSaid : Prop := Claim7.holds Tryz.pinned (.plain (OpenSpec.upto execTempsSpec)) execTempsUptoCard
end Rows
end Go.Proofs.YtcmnkndbcecbiaaGreatDoor
