/-
  DERIVED. GIVEN WITH THE SEED: THE CARDS: each row of YtbikfokhjdjfpaaGreatDoorRows.lean that lists a variable, with what it lists TIED to the program's text (the seventh form; the later family's looks); each row that meets fmt, with fmt's text TOLD by the authors' own Lean function (tested against real Go, not proved from fmt's source: count such statements apart). THE CARD IS WHAT COUNTS. Prove the row's statement (the work); the ties are given (YtbikfokhjdjfpaaGreatDoorTie.lean); close each card by the builder's one call (the guide's Derived/Test/ToyasCard.lean, 'card_holds'). Laid BY PROGRAM, IN A SANDBOX (cutbox-door.mjs). By AI agents, Wed Nov 11 2026. No macro, syntax, notation, axiom, sorry.
-/
import Derived.Test.YtbikfokhjdjfpaaGreatDoorRows
import GoSem.ClaimSeven
namespace Go.Proofs.YtbikfokhjdjfpaaGreatDoor
namespace Rows

/-- THE TIED CARD OF 'laws.FnExactCutUnder'. -/
def fnExactCutUnderCard : Claim7 := { stood := { row := fnExactCutUnderRow, standIns := [], harness := (true, "cd57bb2614b9bfd6ba541123df75b22f85bc4e0fea546e6f634473dd380a2ec7"), looks := false }, kinds := [], alts := [], laidByText := true, laidKinds := [.data, .pinned], laidTests := true, laidLooks := .later }
def FnExactCutUnderCardSaid : Prop := Claim7.holds Tryz.pinned (.plain (OpenSpec.ofChange fnExactCutUnderSpec)) fnExactCutUnderCard

/-- THE TIED CARD OF 'laws.FnExactMatchParameter'. -/
def fnExactMatchParameterCard : Claim7 := { stood := { row := fnExactMatchParameterRow, standIns := [], harness := (true, "cd57bb2614b9bfd6ba541123df75b22f85bc4e0fea546e6f634473dd380a2ec7"), looks := false }, kinds := [], alts := [], laidByText := true, laidKinds := [.data, .pinned], laidTests := true, laidLooks := .later }
def FnExactMatchParameterCardSaid : Prop := Claim7.holds Tryz.pinned (.plain (OpenSpec.ofChange fnExactMatchParameterSpec)) fnExactMatchParameterCard

/-- THE TIED CARD OF 'laws.FnExactImageSets'. -/
def fnExactImageSetsCard : Claim7 := { stood := { row := fnExactImageSetsRow, standIns := [], harness := (true, "cd57bb2614b9bfd6ba541123df75b22f85bc4e0fea546e6f634473dd380a2ec7"), looks := false }, kinds := [], alts := [], laidByText := true, laidKinds := [.data, .pinned], laidTests := true, laidLooks := .later }
def FnExactImageSetsCardSaid : Prop := Claim7.holds Tryz.pinned (.plain (OpenSpec.ofChange fnExactImageSetsSpec)) fnExactImageSetsCard

/-- THE TIED CARD OF 'laws.FnExactMatchContext'. -/
def fnExactMatchContextCard : Claim7 := { stood := { row := fnExactMatchContextRow, standIns := [], harness := (true, "cd57bb2614b9bfd6ba541123df75b22f85bc4e0fea546e6f634473dd380a2ec7"), looks := false }, kinds := [], alts := [], laidByText := true, laidKinds := [.data, .pinned], laidTests := true, laidLooks := .later }
def FnExactMatchContextCardSaid : Prop := Claim7.holds Tryz.pinned (.plain (OpenSpec.ofChange fnExactMatchContextSpec)) fnExactMatchContextCard

/-- THE SECOND FORM's CARD OF 'laws.FnExactCutUnder'. -/
def fnExactCutUnderUptoCard : Claim7 := { stood := { row := fnExactCutUnderUptoRow, standIns := [], harness := (true, "cd57bb2614b9bfd6ba541123df75b22f85bc4e0fea546e6f634473dd380a2ec7"), looks := false }, kinds := [], alts := [], laidByText := true, laidKinds := [.data, .pinned], laidTests := true, laidLooks := .later }
def FnExactCutUnderUptoCardSaid : Prop := Claim7.holds Tryz.pinned (.plain (OpenSpec.upto fnExactCutUnderSpec)) fnExactCutUnderUptoCard

/-- THE SECOND FORM's CARD OF 'laws.FnExactMatchParameter'. -/
def fnExactMatchParameterUptoCard : Claim7 := { stood := { row := fnExactMatchParameterUptoRow, standIns := [], harness := (true, "cd57bb2614b9bfd6ba541123df75b22f85bc4e0fea546e6f634473dd380a2ec7"), looks := false }, kinds := [], alts := [], laidByText := true, laidKinds := [.data, .pinned], laidTests := true, laidLooks := .later }
def FnExactMatchParameterUptoCardSaid : Prop := Claim7.holds Tryz.pinned (.plain (OpenSpec.upto fnExactMatchParameterSpec)) fnExactMatchParameterUptoCard

/-- THE SECOND FORM's CARD OF 'laws.FnExactImageSets'. -/
def fnExactImageSetsUptoCard : Claim7 := { stood := { row := fnExactImageSetsUptoRow, standIns := [], harness := (true, "cd57bb2614b9bfd6ba541123df75b22f85bc4e0fea546e6f634473dd380a2ec7"), looks := false }, kinds := [], alts := [], laidByText := true, laidKinds := [.data, .pinned], laidTests := true, laidLooks := .later }
def FnExactImageSetsUptoCardSaid : Prop := Claim7.holds Tryz.pinned (.plain (OpenSpec.upto fnExactImageSetsSpec)) fnExactImageSetsUptoCard

/-- THE SECOND FORM's CARD OF 'laws.FnExactMatchContext'. -/
def fnExactMatchContextUptoCard : Claim7 := { stood := { row := fnExactMatchContextUptoRow, standIns := [], harness := (true, "cd57bb2614b9bfd6ba541123df75b22f85bc4e0fea546e6f634473dd380a2ec7"), looks := false }, kinds := [], alts := [], laidByText := true, laidKinds := [.data, .pinned], laidTests := true, laidLooks := .later }
def FnExactMatchContextUptoCardSaid : Prop := Claim7.holds Tryz.pinned (.plain (OpenSpec.upto fnExactMatchContextSpec)) fnExactMatchContextUptoCard
end Rows
end Go.Proofs.YtbikfokhjdjfpaaGreatDoor
