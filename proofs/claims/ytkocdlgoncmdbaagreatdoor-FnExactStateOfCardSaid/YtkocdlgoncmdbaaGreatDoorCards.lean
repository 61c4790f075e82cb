/-
  DERIVED. GIVEN WITH THE SEED: THE CARDS: each row of YtkocdlgoncmdbaaGreatDoorRows.lean that lists a variable, with what it lists TIED to the program's text (the seventh form; the later family's looks); each row that meets fmt, with fmt's text TOLD by the authors' own Lean function (tested against real Go, not proved from fmt's source: count such statements apart). THE CARD IS WHAT COUNTS. Prove the row's statement (the work); the ties are given (YtkocdlgoncmdbaaGreatDoorTie.lean); close each card by the builder's one call (the guide's Derived/Test/ToyasCard.lean, 'card_holds'). Laid BY PROGRAM, IN A SANDBOX (cutbox-door.mjs). By AI agents, Wed Nov 11 2026. No macro, syntax, notation, axiom, sorry.
-/
import Derived.Test.YtkocdlgoncmdbaaGreatDoorRows
import GoSem.ClaimSeven
namespace Go.Proofs.YtkocdlgoncmdbaaGreatDoor
namespace Rows

/-- THE TIED CARD OF 'laws.FnExactIsCanonical'. -/
def fnExactIsCanonicalCard : Claim7 := { stood := { row := fnExactIsCanonicalRow, standIns := [], harness := (true, "0d990ae7ed6c60e48d3a33c1bac4feab65eb787e373d34a7750ec14cac41f43e"), looks := false }, kinds := [], alts := [], laidByText := true, laidKinds := [.data, .pinned], laidTests := true, laidLooks := .later }
def FnExactIsCanonicalCardSaid : Prop := Claim7.holds Tryz.pinned (.plain (OpenSpec.ofChange fnExactIsCanonicalSpec)) fnExactIsCanonicalCard

/-- THE TIED CARD OF 'laws.FnExactCanonicalOf'. -/
def fnExactCanonicalOfCard : Claim7 := { stood := { row := fnExactCanonicalOfRow, standIns := [], harness := (true, "0d990ae7ed6c60e48d3a33c1bac4feab65eb787e373d34a7750ec14cac41f43e"), looks := false }, kinds := [], alts := [], laidByText := true, laidKinds := [.data, .pinned], laidTests := true, laidLooks := .later }
def FnExactCanonicalOfCardSaid : Prop := Claim7.holds Tryz.pinned (.plain (OpenSpec.ofChange fnExactCanonicalOfSpec)) fnExactCanonicalOfCard

/-- THE TIED CARD OF 'laws.FnExactStateOf'. -/
def fnExactStateOfCard : Claim7 := { stood := { row := fnExactStateOfRow, standIns := [], harness := (true, "0d990ae7ed6c60e48d3a33c1bac4feab65eb787e373d34a7750ec14cac41f43e"), looks := false }, kinds := [], alts := [], laidByText := true, laidKinds := [.data, .pinned], laidTests := true, laidLooks := .later }
def FnExactStateOfCardSaid : Prop := Claim7.holds Tryz.pinned (.plain (OpenSpec.ofChange fnExactStateOfSpec)) fnExactStateOfCard

/-- THE TIED CARD OF 'laws.FnExactKeyOf'. -/
def fnExactKeyOfCard : Claim7 := { stood := { row := fnExactKeyOfRow, standIns := [], harness := (true, "0d990ae7ed6c60e48d3a33c1bac4feab65eb787e373d34a7750ec14cac41f43e"), looks := false }, kinds := [], alts := [], laidByText := true, laidKinds := [.data, .data, .data, .data, .pinned], laidTests := true, laidLooks := .later }
def FnExactKeyOfCardSaid : Prop := Claim7.holds Tryz.pinned (.plain (OpenSpec.ofChange fnExactKeyOfSpec)) fnExactKeyOfCard

/-- THE SECOND FORM's CARD OF 'laws.FnExactIsCanonical'. -/
def fnExactIsCanonicalUptoCard : Claim7 := { stood := { row := fnExactIsCanonicalUptoRow, standIns := [], harness := (true, "0d990ae7ed6c60e48d3a33c1bac4feab65eb787e373d34a7750ec14cac41f43e"), looks := false }, kinds := [], alts := [], laidByText := true, laidKinds := [.data, .pinned], laidTests := true, laidLooks := .later }
def FnExactIsCanonicalUptoCardSaid : Prop := Claim7.holds Tryz.pinned (.plain (OpenSpec.upto fnExactIsCanonicalSpec)) fnExactIsCanonicalUptoCard

/-- THE SECOND FORM's CARD OF 'laws.FnExactCanonicalOf'. -/
def fnExactCanonicalOfUptoCard : Claim7 := { stood := { row := fnExactCanonicalOfUptoRow, standIns := [], harness := (true, "0d990ae7ed6c60e48d3a33c1bac4feab65eb787e373d34a7750ec14cac41f43e"), looks := false }, kinds := [], alts := [], laidByText := true, laidKinds := [.data, .pinned], laidTests := true, laidLooks := .later }
def FnExactCanonicalOfUptoCardSaid : Prop := Claim7.holds Tryz.pinned (.plain (OpenSpec.upto fnExactCanonicalOfSpec)) fnExactCanonicalOfUptoCard

/-- THE SECOND FORM's CARD OF 'laws.FnExactStateOf'. -/
def fnExactStateOfUptoCard : Claim7 := { stood := { row := fnExactStateOfUptoRow, standIns := [], harness := (true, "0d990ae7ed6c60e48d3a33c1bac4feab65eb787e373d34a7750ec14cac41f43e"), looks := false }, kinds := [], alts := [], laidByText := true, laidKinds := [.data, .pinned], laidTests := true, laidLooks := .later }
def FnExactStateOfUptoCardSaid : Prop := Claim7.holds Tryz.pinned (.plain (OpenSpec.upto fnExactStateOfSpec)) fnExactStateOfUptoCard

/-- THE SECOND FORM's CARD OF 'laws.FnExactKeyOf'. -/
def fnExactKeyOfUptoCard : Claim7 := { stood := { row := fnExactKeyOfUptoRow, standIns := [], harness := (true, "0d990ae7ed6c60e48d3a33c1bac4feab65eb787e373d34a7750ec14cac41f43e"), looks := false }, kinds := [], alts := [], laidByText := true, laidKinds := [.data, .data, .data, .data, .pinned], laidTests := true, laidLooks := .later }
def FnExactKeyOfUptoCardSaid : Prop := Claim7.holds Tryz.pinned (.plain (OpenSpec.upto fnExactKeyOfSpec)) fnExactKeyOfUptoCard
end Rows
end Go.Proofs.YtkocdlgoncmdbaaGreatDoor
