/-
  DERIVED. GIVEN WITH THE SEED: THE CARDS: each row of YtkhhalniblpkcaaGreatDoorRows.lean that lists a variable, with what it lists TIED to the program's text (the seventh form; the later family's looks); each row that meets fmt, with fmt's text TOLD by the authors' own Lean function (tested against real Go, not proved from fmt's source: count such statements apart). THE CARD IS WHAT COUNTS. Prove the row's statement (the work); the ties are given (YtkhhalniblpkcaaGreatDoorTie.lean); close each card by the builder's one call (the guide's Derived/Test/ToyasCard.lean, 'card_holds'). Laid BY PROGRAM, IN A SANDBOX (cutbox-door.mjs). By AI agents, Wed Nov 11 2026. No macro, syntax, notation, axiom, sorry.
-/
import Derived.Test.YtkhhalniblpkcaaGreatDoorRows
import GoSem.ClaimSeven
namespace Go.Proofs.YtkhhalniblpkcaaGreatDoor
namespace Rows

/-- THE TIED CARD OF 'laws.FnExactCanonicalProcess'. -/
def fnExactCanonicalProcessCard : Claim7 := { stood := { row := fnExactCanonicalProcessRow, standIns := [], harness := (true, "a8450798aae080e122f58c89f46d4bee5eec04263d49aad311a1007879383d79"), looks := false }, kinds := [], alts := [], laidByText := true, laidKinds := [.data, .pinned], laidTests := true, laidLooks := .later }
def FnExactCanonicalProcessCardSaid : Prop := Claim7.holds Tryz.pinned (.plain (OpenSpec.ofChange fnExactCanonicalProcessSpec)) fnExactCanonicalProcessCard

/-- THE TIED CARD OF 'laws.FnExactMakeAmbStep'. -/
def fnExactMakeAmbStepCard : Claim7 := { stood := { row := fnExactMakeAmbStepRow, standIns := [], harness := (true, "a8450798aae080e122f58c89f46d4bee5eec04263d49aad311a1007879383d79"), looks := false }, kinds := [], alts := [], laidByText := true, laidKinds := [.data, .pinned], laidTests := true, laidLooks := .later }
def FnExactMakeAmbStepCardSaid : Prop := Claim7.holds Tryz.pinned (.plain (OpenSpec.ofChange fnExactMakeAmbStepSpec)) fnExactMakeAmbStepCard

/-- THE TIED CARD OF 'laws.FnExactAmbResults'. -/
def fnExactAmbResultsCard : Claim7 := { stood := { row := fnExactAmbResultsRow, standIns := [], harness := (true, "a8450798aae080e122f58c89f46d4bee5eec04263d49aad311a1007879383d79"), looks := false }, kinds := [], alts := [], laidByText := true, laidKinds := [.data, .pinned], laidTests := true, laidLooks := .later }
def FnExactAmbResultsCardSaid : Prop := Claim7.holds Tryz.pinned (.plain (OpenSpec.ofChange fnExactAmbResultsSpec)) fnExactAmbResultsCard

/-- THE SECOND FORM's CARD OF 'laws.FnExactCanonicalProcess'. -/
def fnExactCanonicalProcessUptoCard : Claim7 := { stood := { row := fnExactCanonicalProcessUptoRow, standIns := [], harness := (true, "a8450798aae080e122f58c89f46d4bee5eec04263d49aad311a1007879383d79"), looks := false }, kinds := [], alts := [], laidByText := true, laidKinds := [.data, .pinned], laidTests := true, laidLooks := .later }
def FnExactCanonicalProcessUptoCardSaid : Prop := Claim7.holds Tryz.pinned (.plain (OpenSpec.upto fnExactCanonicalProcessSpec)) fnExactCanonicalProcessUptoCard

/-- THE SECOND FORM's CARD OF 'laws.FnExactMakeAmbStep'. -/
def fnExactMakeAmbStepUptoCard : Claim7 := { stood := { row := fnExactMakeAmbStepUptoRow, standIns := [], harness := (true, "a8450798aae080e122f58c89f46d4bee5eec04263d49aad311a1007879383d79"), looks := false }, kinds := [], alts := [], laidByText := true, laidKinds := [.data, .pinned], laidTests := true, laidLooks := .later }
def FnExactMakeAmbStepUptoCardSaid : Prop := Claim7.holds Tryz.pinned (.plain (OpenSpec.upto fnExactMakeAmbStepSpec)) fnExactMakeAmbStepUptoCard

/-- THE SECOND FORM's CARD OF 'laws.FnExactAmbResults'. -/
def fnExactAmbResultsUptoCard : Claim7 := { stood := { row := fnExactAmbResultsUptoRow, standIns := [], harness := (true, "a8450798aae080e122f58c89f46d4bee5eec04263d49aad311a1007879383d79"), looks := false }, kinds := [], alts := [], laidByText := true, laidKinds := [.data, .pinned], laidTests := true, laidLooks := .later }
def FnExactAmbResultsUptoCardSaid : Prop := Claim7.holds Tryz.pinned (.plain (OpenSpec.upto fnExactAmbResultsSpec)) fnExactAmbResultsUptoCard
end Rows
end Go.Proofs.YtkhhalniblpkcaaGreatDoor
