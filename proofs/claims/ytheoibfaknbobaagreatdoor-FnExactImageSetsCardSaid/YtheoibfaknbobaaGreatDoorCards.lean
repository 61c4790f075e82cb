/-
  DERIVED. GIVEN WITH THE SEED: THE CARDS: each row of YtheoibfaknbobaaGreatDoorRows.lean that lists a variable, with what it lists TIED to the program's text (the seventh form; the later family's looks); each row that meets fmt, with fmt's text TOLD by the authors' own Lean function (tested against real Go, not proved from fmt's source: count such statements apart). THE CARD IS WHAT COUNTS. Prove the row's statement (the work); the ties are given (YtheoibfaknbobaaGreatDoorTie.lean); close each card by the builder's one call (the guide's Derived/Test/ToyasCard.lean, 'card_holds'). Laid BY PROGRAM, IN A SANDBOX (cutbox-door.mjs). By AI agents, Wed Nov 11 2026. No macro, syntax, notation, axiom, sorry.
-/
import Derived.Test.YtheoibfaknbobaaGreatDoorRows
import GoSem.ClaimSeven
namespace Go.Proofs.YtheoibfaknbobaaGreatDoor
namespace Rows

/-- THE TIED CARD OF 'laws.FnExactImageSets'. -/
def fnExactImageSetsCard : Claim7 := { stood := { row := fnExactImageSetsRow, standIns := [], harness := (true, "a4f0973aeded9ebe21fab541f6b59038089845c91aa92e36dd48afc2c66a46a6"), looks := false }, kinds := [], alts := [], laidByText := true, laidKinds := [.data, .pinned], laidTests := true, laidLooks := .later }
def FnExactImageSetsCardSaid : Prop := Claim7.holds Tryz.pinned (.plain (OpenSpec.ofChange fnExactImageSetsSpec)) fnExactImageSetsCard

/-- THE SECOND FORM's CARD OF 'laws.FnExactImageSets'. -/
def fnExactImageSetsUptoCard : Claim7 := { stood := { row := fnExactImageSetsUptoRow, standIns := [], harness := (true, "a4f0973aeded9ebe21fab541f6b59038089845c91aa92e36dd48afc2c66a46a6"), looks := false }, kinds := [], alts := [], laidByText := true, laidKinds := [.data, .pinned], laidTests := true, laidLooks := .later }
def FnExactImageSetsUptoCardSaid : Prop := Claim7.holds Tryz.pinned (.plain (OpenSpec.upto fnExactImageSetsSpec)) fnExactImageSetsUptoCard
end Rows
end Go.Proofs.YtheoibfaknbobaaGreatDoor
