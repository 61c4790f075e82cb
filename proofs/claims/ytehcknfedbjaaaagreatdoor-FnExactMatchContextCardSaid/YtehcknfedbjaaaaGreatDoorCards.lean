/-
  DERIVED. GIVEN WITH THE SEED: THE CARDS: each row of YtehcknfedbjaaaaGreatDoorRows.lean that lists a variable, with what it lists TIED to the program's text (the seventh form; the later family's looks); each row that meets fmt, with fmt's text TOLD by the authors' own Lean function (tested against real Go, not proved from fmt's source: count such statements apart). THE CARD IS WHAT COUNTS. Prove the row's statement (the work); the ties are given (YtehcknfedbjaaaaGreatDoorTie.lean); close each card by the builder's one call (the guide's Derived/Test/ToyasCard.lean, 'card_holds'). Laid BY PROGRAM, IN A SANDBOX (cutbox-door.mjs). By AI agents, Wed Nov 11 2026. No macro, syntax, notation, axiom, sorry.
-/
import Derived.Test.YtehcknfedbjaaaaGreatDoorRows
import GoSem.ClaimSeven
namespace Go.Proofs.YtehcknfedbjaaaaGreatDoor
namespace Rows

/-- THE TIED CARD OF 'laws.FnExactImageSets'. -/
def fnExactImageSetsCard : Claim7 := { stood := { row := fnExactImageSetsRow, standIns := [], harness := (true, "7b19af040c53121d102406fd4acc46ed62a6ea05e2e0bf69ad1291b6d56f35e8"), looks := false }, kinds := [], alts := [], laidByText := true, laidKinds := [.data, .pinned], laidTests := true, laidLooks := .later }
def FnExactImageSetsCardSaid : Prop := Claim7.holds Tryz.pinned (.plain (OpenSpec.ofChange fnExactImageSetsSpec)) fnExactImageSetsCard

/-- THE TIED CARD OF 'laws.FnExactMatchContext'. -/
def fnExactMatchContextCard : Claim7 := { stood := { row := fnExactMatchContextRow, standIns := [], harness := (true, "7b19af040c53121d102406fd4acc46ed62a6ea05e2e0bf69ad1291b6d56f35e8"), looks := false }, kinds := [], alts := [], laidByText := true, laidKinds := [.data, .pinned], laidTests := true, laidLooks := .later }
def FnExactMatchContextCardSaid : Prop := Claim7.holds Tryz.pinned (.plain (OpenSpec.ofChange fnExactMatchContextSpec)) fnExactMatchContextCard

/-- THE SECOND FORM's CARD OF 'laws.FnExactImageSets'. -/
def fnExactImageSetsUptoCard : Claim7 := { stood := { row := fnExactImageSetsUptoRow, standIns := [], harness := (true, "7b19af040c53121d102406fd4acc46ed62a6ea05e2e0bf69ad1291b6d56f35e8"), looks := false }, kinds := [], alts := [], laidByText := true, laidKinds := [.data, .pinned], laidTests := true, laidLooks := .later }
def FnExactImageSetsUptoCardSaid : Prop := Claim7.holds Tryz.pinned (.plain (OpenSpec.upto fnExactImageSetsSpec)) fnExactImageSetsUptoCard

/-- THE SECOND FORM's CARD OF 'laws.FnExactMatchContext'. -/
def fnExactMatchContextUptoCard : Claim7 := { stood := { row := fnExactMatchContextUptoRow, standIns := [], harness := (true, "7b19af040c53121d102406fd4acc46ed62a6ea05e2e0bf69ad1291b6d56f35e8"), looks := false }, kinds := [], alts := [], laidByText := true, laidKinds := [.data, .pinned], laidTests := true, laidLooks := .later }
def FnExactMatchContextUptoCardSaid : Prop := Claim7.holds Tryz.pinned (.plain (OpenSpec.upto fnExactMatchContextSpec)) fnExactMatchContextUptoCard
end Rows
end Go.Proofs.YtehcknfedbjaaaaGreatDoor
