/-
  DERIVED. GIVEN WITH THE SEED: THE CARDS: each row of YtdgcioinbegmgaaGreatDoorRows.lean that lists a variable, with what it lists TIED to the program's text (the seventh form; the later family's looks); each row that meets fmt, with fmt's text TOLD by the authors' own Lean function (tested against real Go, not proved from fmt's source: count such statements apart). THE CARD IS WHAT COUNTS. Prove the row's statement (the work); the ties are given (YtdgcioinbegmgaaGreatDoorTie.lean); close each card by the builder's one call (the guide's Derived/Test/ToyasCard.lean, 'card_holds'). Laid BY PROGRAM, IN A SANDBOX (cutbox-door.mjs). By AI agents, Wed Nov 11 2026. No macro, syntax, notation, axiom, sorry.
-/
import Derived.Test.YtdgcioinbegmgaaGreatDoorRows
import GoSem.ClaimSeven
namespace Go.Proofs.YtdgcioinbegmgaaGreatDoor
namespace Rows

/-- THE TIED CARD OF 'quartermasterlaw13.ExpandQuotes'. -/
def expandQuotesCard : Claim7 := { stood := { row := expandQuotesRow, standIns := [], harness := (true, "78b62a718f38494727fe08ebbcc1a7054e0d0f95078a2cf96d383ec79590558a"), looks := true }, kinds := [], alts := [], laidByText := true, laidKinds := [.data, .data, .data, .data, .sentinel, .sentinel, .pinned], laidTests := true, laidLooks := .later }
def ExpandQuotesCardSaid : Prop := Claim7.holds Tryz.pinned (.plain (OpenSpec.ofChange expandQuotesSpec)) expandQuotesCard

/-- THE TIED CARD OF 'quartermasterlaw13.ExpandNone'. -/
def expandNoneCard : Claim7 := { stood := { row := expandNoneRow, standIns := [], harness := (true, "78b62a718f38494727fe08ebbcc1a7054e0d0f95078a2cf96d383ec79590558a"), looks := true }, kinds := [], alts := [], laidByText := true, laidKinds := [.data, .data, .data, .data, .sentinel, .sentinel, .pinned], laidTests := true, laidLooks := .later }
def ExpandNoneCardSaid : Prop := Claim7.holds Tryz.pinned (.plain (OpenSpec.ofChange expandNoneSpec)) expandNoneCard

/-- THE SECOND FORM's CARD OF 'quartermasterlaw13.ExpandQuotes'. -/
def expandQuotesUptoCard : Claim7 := { stood := { row := expandQuotesUptoRow, standIns := [], harness := (true, "78b62a718f38494727fe08ebbcc1a7054e0d0f95078a2cf96d383ec79590558a"), looks := true }, kinds := [], alts := [], laidByText := true, laidKinds := [.data, .data, .data, .data, .sentinel, .sentinel, .pinned], laidTests := true, laidLooks := .later }
def ExpandQuotesUptoCardSaid : Prop := Claim7.holds Tryz.pinned (.plain (OpenSpec.upto expandQuotesSpec)) expandQuotesUptoCard

/-- THE SECOND FORM's CARD OF 'quartermasterlaw13.ExpandNone'. -/
def expandNoneUptoCard : Claim7 := { stood := { row := expandNoneUptoRow, standIns := [], harness := (true, "78b62a718f38494727fe08ebbcc1a7054e0d0f95078a2cf96d383ec79590558a"), looks := true }, kinds := [], alts := [], laidByText := true, laidKinds := [.data, .data, .data, .data, .sentinel, .sentinel, .pinned], laidTests := true, laidLooks := .later }
def ExpandNoneUptoCardSaid : Prop := Claim7.holds Tryz.pinned (.plain (OpenSpec.upto expandNoneSpec)) expandNoneUptoCard
end Rows
end Go.Proofs.YtdgcioinbegmgaaGreatDoor
