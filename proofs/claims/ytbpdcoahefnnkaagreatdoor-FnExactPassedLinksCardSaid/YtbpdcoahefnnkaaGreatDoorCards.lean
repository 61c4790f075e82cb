/-
  DERIVED. GIVEN WITH THE SEED: THE CARDS: each row of YtbpdcoahefnnkaaGreatDoorRows.lean that lists a variable, with what it lists TIED to the program's text (the seventh form; the later family's looks); each row that meets fmt, with fmt's text TOLD by the authors' own Lean function (tested against real Go, not proved from fmt's source: count such statements apart). THE CARD IS WHAT COUNTS. Prove the row's statement (the work); the ties are given (YtbpdcoahefnnkaaGreatDoorTie.lean); close each card by the builder's one call (the guide's Derived/Test/ToyasCard.lean, 'card_holds'). Laid BY PROGRAM, IN A SANDBOX (cutbox-door.mjs). By AI agents, Wed Nov 11 2026. No macro, syntax, notation, axiom, sorry.
-/
import Derived.Test.YtbpdcoahefnnkaaGreatDoorRows
import GoSem.ClaimSeven
namespace Go.Proofs.YtbpdcoahefnnkaaGreatDoor
namespace Rows

/-- THE TIED CARD OF 'laws.FnExactGuardHolds'. -/
def fnExactGuardHoldsCard : Claim7 := { stood := { row := fnExactGuardHoldsRow, standIns := [], harness := (true, "e865b6b8966c793343a3490f0ddadddb5694aab5ae2fdd1c71ff393eeb569429"), looks := false }, kinds := [], alts := [], laidByText := true, laidKinds := [.data, .pinned], laidTests := true, laidLooks := .later }
def FnExactGuardHoldsCardSaid : Prop := Claim7.holds Tryz.pinned (.plain (OpenSpec.ofChange fnExactGuardHoldsSpec)) fnExactGuardHoldsCard

/-- THE TIED CARD OF 'laws.FnExactPatternStates'. -/
def fnExactPatternStatesCard : Claim7 := { stood := { row := fnExactPatternStatesRow, standIns := [], harness := (true, "e865b6b8966c793343a3490f0ddadddb5694aab5ae2fdd1c71ff393eeb569429"), looks := false }, kinds := [], alts := [], laidByText := true, laidKinds := [.data, .pinned], laidTests := true, laidLooks := .later }
def FnExactPatternStatesCardSaid : Prop := Claim7.holds Tryz.pinned (.plain (OpenSpec.ofChange fnExactPatternStatesSpec)) fnExactPatternStatesCard

/-- THE TIED CARD OF 'laws.FnExactPassedLinks'. -/
def fnExactPassedLinksCard : Claim7 := { stood := { row := fnExactPassedLinksRow, standIns := [], harness := (true, "e865b6b8966c793343a3490f0ddadddb5694aab5ae2fdd1c71ff393eeb569429"), looks := false }, kinds := [], alts := [], laidByText := true, laidKinds := [.data, .pinned], laidTests := true, laidLooks := .later }
def FnExactPassedLinksCardSaid : Prop := Claim7.holds Tryz.pinned (.plain (OpenSpec.ofChange fnExactPassedLinksSpec)) fnExactPassedLinksCard

/-- THE SECOND FORM's CARD OF 'laws.FnExactGuardHolds'. -/
def fnExactGuardHoldsUptoCard : Claim7 := { stood := { row := fnExactGuardHoldsUptoRow, standIns := [], harness := (true, "e865b6b8966c793343a3490f0ddadddb5694aab5ae2fdd1c71ff393eeb569429"), looks := false }, kinds := [], alts := [], laidByText := true, laidKinds := [.data, .pinned], laidTests := true, laidLooks := .later }
def FnExactGuardHoldsUptoCardSaid : Prop := Claim7.holds Tryz.pinned (.plain (OpenSpec.upto fnExactGuardHoldsSpec)) fnExactGuardHoldsUptoCard

/-- THE SECOND FORM's CARD OF 'laws.FnExactPatternStates'. -/
def fnExactPatternStatesUptoCard : Claim7 := { stood := { row := fnExactPatternStatesUptoRow, standIns := [], harness := (true, "e865b6b8966c793343a3490f0ddadddb5694aab5ae2fdd1c71ff393eeb569429"), looks := false }, kinds := [], alts := [], laidByText := true, laidKinds := [.data, .pinned], laidTests := true, laidLooks := .later }
def FnExactPatternStatesUptoCardSaid : Prop := Claim7.holds Tryz.pinned (.plain (OpenSpec.upto fnExactPatternStatesSpec)) fnExactPatternStatesUptoCard

/-- THE SECOND FORM's CARD OF 'laws.FnExactPassedLinks'. -/
def fnExactPassedLinksUptoCard : Claim7 := { stood := { row := fnExactPassedLinksUptoRow, standIns := [], harness := (true, "e865b6b8966c793343a3490f0ddadddb5694aab5ae2fdd1c71ff393eeb569429"), looks := false }, kinds := [], alts := [], laidByText := true, laidKinds := [.data, .pinned], laidTests := true, laidLooks := .later }
def FnExactPassedLinksUptoCardSaid : Prop := Claim7.holds Tryz.pinned (.plain (OpenSpec.upto fnExactPassedLinksSpec)) fnExactPassedLinksUptoCard
end Rows
end Go.Proofs.YtbpdcoahefnnkaaGreatDoor
