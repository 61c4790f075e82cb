/-
  DERIVED. GIVEN WITH THE SEED: THE CARDS: each row of YtkgmflihalaheaaGreatDoorRows.lean that lists a variable, with what it lists TIED to the program's text (the seventh form; the later family's looks); each row that meets fmt, with fmt's text TOLD by the authors' own Lean function (tested against real Go, not proved from fmt's source: count such statements apart). THE CARD IS WHAT COUNTS. Prove the row's statement (the work); the ties are given (YtkgmflihalaheaaGreatDoorTie.lean); close each card by the builder's one call (the guide's Derived/Test/ToyasCard.lean, 'card_holds'). Laid BY PROGRAM, IN A SANDBOX (cutbox-door.mjs). By AI agents, Wed Nov 11 2026. No macro, syntax, notation, axiom, sorry.
-/
import Derived.Test.YtkgmflihalaheaaGreatDoorRows
import GoSem.ClaimSeven
namespace Go.Proofs.YtkgmflihalaheaaGreatDoor
namespace Rows

/-- THE TIED CARD OF 'laws.FnExactKeyOf'. -/
def fnExactKeyOfCard : Claim7 := { stood := { row := fnExactKeyOfRow, standIns := [], harness := (true, "fe76082149e9501973d56ef9ae4d2aac2bcedcb5b329ea331097d8c9aa5143d3"), looks := true }, kinds := [], alts := [], laidByText := true, laidKinds := [.data, .data, .data, .data, .pinned], laidTests := true, laidLooks := .later }
def FnExactKeyOfCardSaid : Prop := Claim7.holds Tryz.pinned (.plain (OpenSpec.ofChange fnExactKeyOfSpec)) fnExactKeyOfCard

/-- THE TIED CARD OF 'laws.FnExactAmbientRules'. -/
def fnExactAmbientRulesCard : Claim7 := { stood := { row := fnExactAmbientRulesRow, standIns := [], harness := (true, "fe76082149e9501973d56ef9ae4d2aac2bcedcb5b329ea331097d8c9aa5143d3"), looks := true }, kinds := [], alts := [], laidByText := true, laidKinds := [.data, .data, .data, .data, .sentinel, .sentinel, .pinned], laidTests := true, laidLooks := .later }
def FnExactAmbientRulesCardSaid : Prop := Claim7.holds Tryz.pinned (.plain (OpenSpec.ofChange fnExactAmbientRulesSpec)) fnExactAmbientRulesCard

/-- THE SECOND FORM's CARD OF 'laws.FnExactKeyOf'. -/
def fnExactKeyOfUptoCard : Claim7 := { stood := { row := fnExactKeyOfUptoRow, standIns := [], harness := (true, "fe76082149e9501973d56ef9ae4d2aac2bcedcb5b329ea331097d8c9aa5143d3"), looks := true }, kinds := [], alts := [], laidByText := true, laidKinds := [.data, .data, .data, .data, .pinned], laidTests := true, laidLooks := .later }
def FnExactKeyOfUptoCardSaid : Prop := Claim7.holds Tryz.pinned (.plain (OpenSpec.upto fnExactKeyOfSpec)) fnExactKeyOfUptoCard

/-- THE SECOND FORM's CARD OF 'laws.FnExactAmbientRules'. -/
def fnExactAmbientRulesUptoCard : Claim7 := { stood := { row := fnExactAmbientRulesUptoRow, standIns := [], harness := (true, "fe76082149e9501973d56ef9ae4d2aac2bcedcb5b329ea331097d8c9aa5143d3"), looks := true }, kinds := [], alts := [], laidByText := true, laidKinds := [.data, .data, .data, .data, .sentinel, .sentinel, .pinned], laidTests := true, laidLooks := .later }
def FnExactAmbientRulesUptoCardSaid : Prop := Claim7.holds Tryz.pinned (.plain (OpenSpec.upto fnExactAmbientRulesSpec)) fnExactAmbientRulesUptoCard
end Rows
end Go.Proofs.YtkgmflihalaheaaGreatDoor
