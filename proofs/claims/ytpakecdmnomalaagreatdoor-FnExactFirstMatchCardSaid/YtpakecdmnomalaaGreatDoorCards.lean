/-
  DERIVED. GIVEN WITH THE SEED: THE CARDS: each row of YtpakecdmnomalaaGreatDoorRows.lean that lists a variable, with what it lists TIED to the program's text (the seventh form; the later family's looks); each row that meets fmt, with fmt's text TOLD by the authors' own Lean function (tested against real Go, not proved from fmt's source: count such statements apart). THE CARD IS WHAT COUNTS. Prove the row's statement (the work); the ties are given (YtpakecdmnomalaaGreatDoorTie.lean); close each card by the builder's one call (the guide's Derived/Test/ToyasCard.lean, 'card_holds'). Laid BY PROGRAM, IN A SANDBOX (cutbox-door.mjs). By AI agents, Wed Nov 11 2026. No macro, syntax, notation, axiom, sorry.
-/
import Derived.Test.YtpakecdmnomalaaGreatDoorRows
import GoSem.ClaimSeven
namespace Go.Proofs.YtpakecdmnomalaaGreatDoor
namespace Rows

/-- THE TIED CARD OF 'laws.FnExactCountActive'. -/
def fnExactCountActiveCard : Claim7 := { stood := { row := fnExactCountActiveRow, standIns := [], harness := (true, "db4b20cb8e14e682ea4c699367bac3627f06ba6104fac6d2a3045821a2d3cd7e"), looks := false }, kinds := [], alts := [], laidByText := true, laidKinds := [.data, .pinned], laidTests := true, laidLooks := .later }
def FnExactCountActiveCardSaid : Prop := Claim7.holds Tryz.pinned (.plain (OpenSpec.ofChange fnExactCountActiveSpec)) fnExactCountActiveCard

/-- THE TIED CARD OF 'laws.FnExactFirstMatch'. -/
def fnExactFirstMatchCard : Claim7 := { stood := { row := fnExactFirstMatchRow, standIns := [], harness := (true, "db4b20cb8e14e682ea4c699367bac3627f06ba6104fac6d2a3045821a2d3cd7e"), looks := false }, kinds := [], alts := [], laidByText := true, laidKinds := [.data, .pinned], laidTests := true, laidLooks := .later }
def FnExactFirstMatchCardSaid : Prop := Claim7.holds Tryz.pinned (.plain (OpenSpec.ofChange fnExactFirstMatchSpec)) fnExactFirstMatchCard

/-- THE TIED CARD OF 'laws.FnExactAllMatches'. -/
def fnExactAllMatchesCard : Claim7 := { stood := { row := fnExactAllMatchesRow, standIns := [], harness := (true, "db4b20cb8e14e682ea4c699367bac3627f06ba6104fac6d2a3045821a2d3cd7e"), looks := false }, kinds := [], alts := [], laidByText := true, laidKinds := [.data, .pinned], laidTests := true, laidLooks := .later }
def FnExactAllMatchesCardSaid : Prop := Claim7.holds Tryz.pinned (.plain (OpenSpec.ofChange fnExactAllMatchesSpec)) fnExactAllMatchesCard

/-- THE TIED CARD OF 'laws.FnExactImageSets'. -/
def fnExactImageSetsCard : Claim7 := { stood := { row := fnExactImageSetsRow, standIns := [], harness := (true, "db4b20cb8e14e682ea4c699367bac3627f06ba6104fac6d2a3045821a2d3cd7e"), looks := false }, kinds := [], alts := [], laidByText := true, laidKinds := [.data, .pinned], laidTests := true, laidLooks := .later }
def FnExactImageSetsCardSaid : Prop := Claim7.holds Tryz.pinned (.plain (OpenSpec.ofChange fnExactImageSetsSpec)) fnExactImageSetsCard

/-- THE SECOND FORM's CARD OF 'laws.FnExactCountActive'. -/
def fnExactCountActiveUptoCard : Claim7 := { stood := { row := fnExactCountActiveUptoRow, standIns := [], harness := (true, "db4b20cb8e14e682ea4c699367bac3627f06ba6104fac6d2a3045821a2d3cd7e"), looks := false }, kinds := [], alts := [], laidByText := true, laidKinds := [.data, .pinned], laidTests := true, laidLooks := .later }
def FnExactCountActiveUptoCardSaid : Prop := Claim7.holds Tryz.pinned (.plain (OpenSpec.upto fnExactCountActiveSpec)) fnExactCountActiveUptoCard

/-- THE SECOND FORM's CARD OF 'laws.FnExactFirstMatch'. -/
def fnExactFirstMatchUptoCard : Claim7 := { stood := { row := fnExactFirstMatchUptoRow, standIns := [], harness := (true, "db4b20cb8e14e682ea4c699367bac3627f06ba6104fac6d2a3045821a2d3cd7e"), looks := false }, kinds := [], alts := [], laidByText := true, laidKinds := [.data, .pinned], laidTests := true, laidLooks := .later }
def FnExactFirstMatchUptoCardSaid : Prop := Claim7.holds Tryz.pinned (.plain (OpenSpec.upto fnExactFirstMatchSpec)) fnExactFirstMatchUptoCard

/-- THE SECOND FORM's CARD OF 'laws.FnExactAllMatches'. -/
def fnExactAllMatchesUptoCard : Claim7 := { stood := { row := fnExactAllMatchesUptoRow, standIns := [], harness := (true, "db4b20cb8e14e682ea4c699367bac3627f06ba6104fac6d2a3045821a2d3cd7e"), looks := false }, kinds := [], alts := [], laidByText := true, laidKinds := [.data, .pinned], laidTests := true, laidLooks := .later }
def FnExactAllMatchesUptoCardSaid : Prop := Claim7.holds Tryz.pinned (.plain (OpenSpec.upto fnExactAllMatchesSpec)) fnExactAllMatchesUptoCard

/-- THE SECOND FORM's CARD OF 'laws.FnExactImageSets'. -/
def fnExactImageSetsUptoCard : Claim7 := { stood := { row := fnExactImageSetsUptoRow, standIns := [], harness := (true, "db4b20cb8e14e682ea4c699367bac3627f06ba6104fac6d2a3045821a2d3cd7e"), looks := false }, kinds := [], alts := [], laidByText := true, laidKinds := [.data, .pinned], laidTests := true, laidLooks := .later }
def FnExactImageSetsUptoCardSaid : Prop := Claim7.holds Tryz.pinned (.plain (OpenSpec.upto fnExactImageSetsSpec)) fnExactImageSetsUptoCard
end Rows
end Go.Proofs.YtpakecdmnomalaaGreatDoor
