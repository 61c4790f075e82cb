/-
  DERIVED. GIVEN WITH THE SEED: THE CARDS: each row of YtgdmihplkgkiiaaGreatDoorRows.lean that lists a variable, with what it lists TIED to the program's text (the seventh form; the later family's looks); each row that meets fmt, with fmt's text TOLD by the authors' own Lean function (tested against real Go, not proved from fmt's source: count such statements apart). THE CARD IS WHAT COUNTS. Prove the row's statement (the work); the ties are given (YtgdmihplkgkiiaaGreatDoorTie.lean); close each card by the builder's one call (the guide's Derived/Test/ToyasCard.lean, 'card_holds'). Laid BY PROGRAM, IN A SANDBOX (cutbox-door.mjs). By AI agents, Wed Nov 11 2026. No macro, syntax, notation, axiom, sorry.
-/
import Derived.Test.YtgdmihplkgkiiaaGreatDoorRows
import GoSem.ClaimSeven
namespace Go.Proofs.YtgdmihplkgkiiaaGreatDoor
namespace Rows

/-- THE TIED CARD OF 'laws.FnExactIsMatch'. -/
def fnExactIsMatchCard : Claim7 := { stood := { row := fnExactIsMatchRow, standIns := [], harness := (true, "03bb5e977d2edb29d0abc270d455f9e9947cd64e680757779e3ea3fcb90e59b0"), looks := false }, kinds := [], alts := [], laidByText := true, laidKinds := [.data, .pinned], laidTests := true, laidLooks := .later }
def FnExactIsMatchCardSaid : Prop := Claim7.holds Tryz.pinned (.plain (OpenSpec.ofChange fnExactIsMatchSpec)) fnExactIsMatchCard

/-- THE TIED CARD OF 'laws.FnExactIsActiveMatch'. -/
def fnExactIsActiveMatchCard : Claim7 := { stood := { row := fnExactIsActiveMatchRow, standIns := [], harness := (true, "03bb5e977d2edb29d0abc270d455f9e9947cd64e680757779e3ea3fcb90e59b0"), looks := false }, kinds := [], alts := [], laidByText := true, laidKinds := [.data, .pinned], laidTests := true, laidLooks := .later }
def FnExactIsActiveMatchCardSaid : Prop := Claim7.holds Tryz.pinned (.plain (OpenSpec.ofChange fnExactIsActiveMatchSpec)) fnExactIsActiveMatchCard

/-- THE TIED CARD OF 'laws.FnExactMatchLinks'. -/
def fnExactMatchLinksCard : Claim7 := { stood := { row := fnExactMatchLinksRow, standIns := [], harness := (true, "03bb5e977d2edb29d0abc270d455f9e9947cd64e680757779e3ea3fcb90e59b0"), looks := false }, kinds := [], alts := [], laidByText := true, laidKinds := [.data, .pinned], laidTests := true, laidLooks := .later }
def FnExactMatchLinksCardSaid : Prop := Claim7.holds Tryz.pinned (.plain (OpenSpec.ofChange fnExactMatchLinksSpec)) fnExactMatchLinksCard

/-- THE SECOND FORM's CARD OF 'laws.FnExactIsMatch'. -/
def fnExactIsMatchUptoCard : Claim7 := { stood := { row := fnExactIsMatchUptoRow, standIns := [], harness := (true, "03bb5e977d2edb29d0abc270d455f9e9947cd64e680757779e3ea3fcb90e59b0"), looks := false }, kinds := [], alts := [], laidByText := true, laidKinds := [.data, .pinned], laidTests := true, laidLooks := .later }
def FnExactIsMatchUptoCardSaid : Prop := Claim7.holds Tryz.pinned (.plain (OpenSpec.upto fnExactIsMatchSpec)) fnExactIsMatchUptoCard

/-- THE SECOND FORM's CARD OF 'laws.FnExactIsActiveMatch'. -/
def fnExactIsActiveMatchUptoCard : Claim7 := { stood := { row := fnExactIsActiveMatchUptoRow, standIns := [], harness := (true, "03bb5e977d2edb29d0abc270d455f9e9947cd64e680757779e3ea3fcb90e59b0"), looks := false }, kinds := [], alts := [], laidByText := true, laidKinds := [.data, .pinned], laidTests := true, laidLooks := .later }
def FnExactIsActiveMatchUptoCardSaid : Prop := Claim7.holds Tryz.pinned (.plain (OpenSpec.upto fnExactIsActiveMatchSpec)) fnExactIsActiveMatchUptoCard

/-- THE SECOND FORM's CARD OF 'laws.FnExactMatchLinks'. -/
def fnExactMatchLinksUptoCard : Claim7 := { stood := { row := fnExactMatchLinksUptoRow, standIns := [], harness := (true, "03bb5e977d2edb29d0abc270d455f9e9947cd64e680757779e3ea3fcb90e59b0"), looks := false }, kinds := [], alts := [], laidByText := true, laidKinds := [.data, .pinned], laidTests := true, laidLooks := .later }
def FnExactMatchLinksUptoCardSaid : Prop := Claim7.holds Tryz.pinned (.plain (OpenSpec.upto fnExactMatchLinksSpec)) fnExactMatchLinksUptoCard
end Rows
end Go.Proofs.YtgdmihplkgkiiaaGreatDoor
