/-
  DERIVED. GIVEN WITH THE SEED: THE CARDS: each row of YtfjladalegioaaaGreatDoorRows.lean that lists a variable, with what it lists TIED to the program's text (the seventh form; the later family's looks); each row that meets fmt, with fmt's text TOLD by the authors' own Lean function (tested against real Go, not proved from fmt's source: count such statements apart). THE CARD IS WHAT COUNTS. Prove the row's statement (the work); the ties are given (YtfjladalegioaaaGreatDoorTie.lean); close each card by the builder's one call (the guide's Derived/Test/ToyasCard.lean, 'card_holds'). Laid BY PROGRAM, IN A SANDBOX (cutbox-door.mjs). By AI agents, Wed Nov 11 2026. No macro, syntax, notation, axiom, sorry.
-/
import Derived.Test.YtfjladalegioaaaGreatDoorRows
import GoSem.ClaimSeven
namespace Go.Proofs.YtfjladalegioaaaGreatDoor
namespace Rows

/-- THE TIED CARD OF 'laws.FnExactAmbResults'. -/
def fnExactAmbResultsCard : Claim7 := { stood := { row := fnExactAmbResultsRow, standIns := [], harness := (true, "82e50d4c64962bf763f7d56980f316e8af0731a7e6a5407eb20b9ca23f8933e0"), looks := false }, kinds := [], alts := [], laidByText := true, laidKinds := [.data, .pinned], laidTests := true, laidLooks := .later }
def FnExactAmbResultsCardSaid : Prop := Claim7.holds Tryz.pinned (.plain (OpenSpec.ofChange fnExactAmbResultsSpec)) fnExactAmbResultsCard

/-- THE SECOND FORM's CARD OF 'laws.FnExactAmbResults'. -/
def fnExactAmbResultsUptoCard : Claim7 := { stood := { row := fnExactAmbResultsUptoRow, standIns := [], harness := (true, "82e50d4c64962bf763f7d56980f316e8af0731a7e6a5407eb20b9ca23f8933e0"), looks := false }, kinds := [], alts := [], laidByText := true, laidKinds := [.data, .pinned], laidTests := true, laidLooks := .later }
def FnExactAmbResultsUptoCardSaid : Prop := Claim7.holds Tryz.pinned (.plain (OpenSpec.upto fnExactAmbResultsSpec)) fnExactAmbResultsUptoCard
end Rows
end Go.Proofs.YtfjladalegioaaaGreatDoor
