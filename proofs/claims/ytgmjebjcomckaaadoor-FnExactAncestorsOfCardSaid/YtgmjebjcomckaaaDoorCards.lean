/-
  DERIVED. GIVEN WITH THE SEED: THE CARDS: each row of YtgmjebjcomckaaaDoorRows.lean that lists a variable, with what it lists TIED to the program's text (the seventh form; the later family's looks); each row that meets fmt, with fmt's text TOLD by the authors' own Lean function (tested against real Go, not proved from fmt's source: count such statements apart). THE CARD IS WHAT COUNTS. Prove the row's statement (the work); the ties are given (YtgmjebjcomckaaaDoorTie.lean); close each card by the builder's one call (the guide's Derived/Test/ToyasCard.lean, 'card_holds'). Laid BY PROGRAM, IN A SANDBOX (cutbox-door.mjs). By AI agents, Wed Nov 11 2026. No macro, syntax, notation, axiom, sorry.
-/
import Derived.Test.YtgmjebjcomckaaaDoorRows
import GoSem.ClaimSeven
namespace Go.Proofs.YtgmjebjcomckaaaDoor
namespace Rows

/-- THE TIED CARD OF 'laws.FnExactProcessText'. -/
def fnExactProcessTextCard : Claim7 := { stood := { row := fnExactProcessTextRow, standIns := [], harness := (true, "23728a8be8e1047f557b319f4313e9333638ef490c201945681407b8ad37bf78"), looks := false }, kinds := [], alts := [], laidByText := true, laidKinds := [.data, .pinned], laidTests := true, laidLooks := .later }
def FnExactProcessTextCardSaid : Prop := Claim7.holds Tryd.pinned (.plain (OpenSpec.ofChange fnExactProcessTextSpec)) fnExactProcessTextCard

/-- THE TIED CARD OF 'laws.FnExactAmbSteps'. -/
def fnExactAmbStepsCard : Claim7 := { stood := { row := fnExactAmbStepsRow, standIns := [], harness := (true, "23728a8be8e1047f557b319f4313e9333638ef490c201945681407b8ad37bf78"), looks := false }, kinds := [], alts := [], laidByText := true, laidKinds := [.data, .pinned], laidTests := true, laidLooks := .later }
def FnExactAmbStepsCardSaid : Prop := Claim7.holds Tryd.pinned (.plain (OpenSpec.ofChange fnExactAmbStepsSpec)) fnExactAmbStepsCard

/-- THE TIED CARD OF 'laws.FnExactParseProcess'. -/
def fnExactParseProcessCard : Claim7 := { stood := { row := fnExactParseProcessRow, standIns := [], harness := (true, "23728a8be8e1047f557b319f4313e9333638ef490c201945681407b8ad37bf78"), looks := false }, kinds := [], alts := [], laidByText := true, laidKinds := [.data, .pinned], laidTests := true, laidLooks := .later }
def FnExactParseProcessCardSaid : Prop := Claim7.holds Tryd.pinned (.plain (OpenSpec.ofChange fnExactParseProcessSpec)) fnExactParseProcessCard

/-- THE TIED CARD OF 'laws.FnPlaces'. -/
def fnPlacesCard : Claim7 := { stood := { row := fnPlacesRow, standIns := [], harness := (true, "23728a8be8e1047f557b319f4313e9333638ef490c201945681407b8ad37bf78"), looks := false }, kinds := [], alts := [], laidByText := true, laidKinds := [.data, .pinned], laidTests := true, laidLooks := .later }
def FnPlacesCardSaid : Prop := Claim7.holds Tryd.pinned (.plain (OpenSpec.ofChange fnPlacesSpec)) fnPlacesCard

/-- THE TIED CARD OF 'laws.FnExactCommonPlace'. -/
def fnExactCommonPlaceCard : Claim7 := { stood := { row := fnExactCommonPlaceRow, standIns := [], harness := (true, "23728a8be8e1047f557b319f4313e9333638ef490c201945681407b8ad37bf78"), looks := false }, kinds := [], alts := [], laidByText := true, laidKinds := [.data, .pinned], laidTests := true, laidLooks := .later }
def FnExactCommonPlaceCardSaid : Prop := Claim7.holds Tryd.pinned (.plain (OpenSpec.ofChange fnExactCommonPlaceSpec)) fnExactCommonPlaceCard

/-- THE TIED CARD OF 'laws.FnExactAncestorsOf'. -/
def fnExactAncestorsOfCard : Claim7 := { stood := { row := fnExactAncestorsOfRow, standIns := [], harness := (true, "23728a8be8e1047f557b319f4313e9333638ef490c201945681407b8ad37bf78"), looks := false }, kinds := [], alts := [], laidByText := true, laidKinds := [.data, .pinned], laidTests := true, laidLooks := .later }
def FnExactAncestorsOfCardSaid : Prop := Claim7.holds Tryd.pinned (.plain (OpenSpec.ofChange fnExactAncestorsOfSpec)) fnExactAncestorsOfCard

/-- THE SECOND FORM's CARD OF 'laws.FnExactProcessText'. -/
def fnExactProcessTextUptoCard : Claim7 := { stood := { row := fnExactProcessTextUptoRow, standIns := [], harness := (true, "23728a8be8e1047f557b319f4313e9333638ef490c201945681407b8ad37bf78"), looks := false }, kinds := [], alts := [], laidByText := true, laidKinds := [.data, .pinned], laidTests := true, laidLooks := .later }
def FnExactProcessTextUptoCardSaid : Prop := Claim7.holds Tryd.pinned (.plain (OpenSpec.upto fnExactProcessTextSpec)) fnExactProcessTextUptoCard

/-- THE SECOND FORM's CARD OF 'laws.FnExactAmbSteps'. -/
def fnExactAmbStepsUptoCard : Claim7 := { stood := { row := fnExactAmbStepsUptoRow, standIns := [], harness := (true, "23728a8be8e1047f557b319f4313e9333638ef490c201945681407b8ad37bf78"), looks := false }, kinds := [], alts := [], laidByText := true, laidKinds := [.data, .pinned], laidTests := true, laidLooks := .later }
def FnExactAmbStepsUptoCardSaid : Prop := Claim7.holds Tryd.pinned (.plain (OpenSpec.upto fnExactAmbStepsSpec)) fnExactAmbStepsUptoCard

/-- THE SECOND FORM's CARD OF 'laws.FnExactParseProcess'. -/
def fnExactParseProcessUptoCard : Claim7 := { stood := { row := fnExactParseProcessUptoRow, standIns := [], harness := (true, "23728a8be8e1047f557b319f4313e9333638ef490c201945681407b8ad37bf78"), looks := false }, kinds := [], alts := [], laidByText := true, laidKinds := [.data, .pinned], laidTests := true, laidLooks := .later }
def FnExactParseProcessUptoCardSaid : Prop := Claim7.holds Tryd.pinned (.plain (OpenSpec.upto fnExactParseProcessSpec)) fnExactParseProcessUptoCard

/-- THE SECOND FORM's CARD OF 'laws.FnPlaces'. -/
def fnPlacesUptoCard : Claim7 := { stood := { row := fnPlacesUptoRow, standIns := [], harness := (true, "23728a8be8e1047f557b319f4313e9333638ef490c201945681407b8ad37bf78"), looks := false }, kinds := [], alts := [], laidByText := true, laidKinds := [.data, .pinned], laidTests := true, laidLooks := .later }
def FnPlacesUptoCardSaid : Prop := Claim7.holds Tryd.pinned (.plain (OpenSpec.upto fnPlacesSpec)) fnPlacesUptoCard

/-- THE SECOND FORM's CARD OF 'laws.FnExactCommonPlace'. -/
def fnExactCommonPlaceUptoCard : Claim7 := { stood := { row := fnExactCommonPlaceUptoRow, standIns := [], harness := (true, "23728a8be8e1047f557b319f4313e9333638ef490c201945681407b8ad37bf78"), looks := false }, kinds := [], alts := [], laidByText := true, laidKinds := [.data, .pinned], laidTests := true, laidLooks := .later }
def FnExactCommonPlaceUptoCardSaid : Prop := Claim7.holds Tryd.pinned (.plain (OpenSpec.upto fnExactCommonPlaceSpec)) fnExactCommonPlaceUptoCard

/-- THE SECOND FORM's CARD OF 'laws.FnExactAncestorsOf'. -/
def fnExactAncestorsOfUptoCard : Claim7 := { stood := { row := fnExactAncestorsOfUptoRow, standIns := [], harness := (true, "23728a8be8e1047f557b319f4313e9333638ef490c201945681407b8ad37bf78"), looks := false }, kinds := [], alts := [], laidByText := true, laidKinds := [.data, .pinned], laidTests := true, laidLooks := .later }
def FnExactAncestorsOfUptoCardSaid : Prop := Claim7.holds Tryd.pinned (.plain (OpenSpec.upto fnExactAncestorsOfSpec)) fnExactAncestorsOfUptoCard
end Rows
end Go.Proofs.YtgmjebjcomckaaaDoor
