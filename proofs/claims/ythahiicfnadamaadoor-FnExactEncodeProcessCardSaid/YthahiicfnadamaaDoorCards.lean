/-
  DERIVED. GIVEN WITH THE SEED: THE CARDS: each row of YthahiicfnadamaaDoorRows.lean that lists a variable, with what it lists TIED to the program's text (the seventh form; the later family's looks); each row that meets fmt, with fmt's text TOLD by the authors' own Lean function (tested against real Go, not proved from fmt's source: count such statements apart). THE CARD IS WHAT COUNTS. Prove the row's statement (the work); the ties are given (YthahiicfnadamaaDoorTie.lean); close each card by the builder's one call (the guide's Derived/Test/ToyasCard.lean, 'card_holds'). Laid BY PROGRAM, IN A SANDBOX (cutbox-door.mjs). By AI agents, Wed Nov 11 2026. No macro, syntax, notation, axiom, sorry.
-/
import Derived.Test.YthahiicfnadamaaDoorRows
import GoSem.ClaimSeven
namespace Go.Proofs.YthahiicfnadamaaDoor
namespace Rows

/-- THE TIED CARD OF 'laws.FnExactEncodeProcess'. -/
def fnExactEncodeProcessCard : Claim7 := { stood := { row := fnExactEncodeProcessRow, standIns := [], harness := (true, "8c5f233f271b320c24757fed6fd2d666b1972defd84f4629ddd63a5c24106233"), looks := false }, kinds := [], alts := [], laidByText := true, laidKinds := [.data, .pinned], laidTests := true, laidLooks := .later }
def FnExactEncodeProcessCardSaid : Prop := Claim7.holds Tryd.pinned (.plain (OpenSpec.ofChange fnExactEncodeProcessSpec)) fnExactEncodeProcessCard

/-- THE SECOND FORM's CARD OF 'laws.FnExactEncodeProcess'. -/
def fnExactEncodeProcessUptoCard : Claim7 := { stood := { row := fnExactEncodeProcessUptoRow, standIns := [], harness := (true, "8c5f233f271b320c24757fed6fd2d666b1972defd84f4629ddd63a5c24106233"), looks := false }, kinds := [], alts := [], laidByText := true, laidKinds := [.data, .pinned], laidTests := true, laidLooks := .later }
def FnExactEncodeProcessUptoCardSaid : Prop := Claim7.holds Tryd.pinned (.plain (OpenSpec.upto fnExactEncodeProcessSpec)) fnExactEncodeProcessUptoCard
end Rows
end Go.Proofs.YthahiicfnadamaaDoor
