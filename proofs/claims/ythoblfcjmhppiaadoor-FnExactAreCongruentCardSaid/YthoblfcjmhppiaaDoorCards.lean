/-
  DERIVED. GIVEN WITH THE SEED: THE CARDS: each row of YthoblfcjmhppiaaDoorRows.lean that lists a variable, with what it lists TIED to the program's text (the seventh form; the later family's looks); each row that meets fmt, with fmt's text TOLD by the authors' own Lean function (tested against real Go, not proved from fmt's source: count such statements apart). THE CARD IS WHAT COUNTS. Prove the row's statement (the work); the ties are given (YthoblfcjmhppiaaDoorTie.lean); close each card by the builder's one call (the guide's Derived/Test/ToyasCard.lean, 'card_holds'). Laid BY PROGRAM, IN A SANDBOX (cutbox-door.mjs). By AI agents, Wed Nov 11 2026. No macro, syntax, notation, axiom, sorry.
-/
import Derived.Test.YthoblfcjmhppiaaDoorRows
import GoSem.ClaimSeven
namespace Go.Proofs.YthoblfcjmhppiaaDoor
namespace Rows

/-- THE TIED CARD OF 'laws.FnExactDecodeProcess'. -/
def fnExactDecodeProcessCard : Claim7 := { stood := { row := fnExactDecodeProcessRow, standIns := [], harness := (true, "5c5eafdeefe5b513c62dc821bf159f13eb7ed30e81fe78e12993bbfdd1747357"), looks := false }, kinds := [], alts := [], laidByText := true, laidKinds := [.data, .pinned], laidTests := true, laidLooks := .later }
def FnExactDecodeProcessCardSaid : Prop := Claim7.holds Tryd.pinned (.plain (OpenSpec.ofChange fnExactDecodeProcessSpec)) fnExactDecodeProcessCard

/-- THE TIED CARD OF 'laws.FnExactAreCongruent'. -/
def fnExactAreCongruentCard : Claim7 := { stood := { row := fnExactAreCongruentRow, standIns := [], harness := (true, "5c5eafdeefe5b513c62dc821bf159f13eb7ed30e81fe78e12993bbfdd1747357"), looks := false }, kinds := [], alts := [], laidByText := true, laidKinds := [.data, .pinned], laidTests := true, laidLooks := .later }
def FnExactAreCongruentCardSaid : Prop := Claim7.holds Tryd.pinned (.plain (OpenSpec.ofChange fnExactAreCongruentSpec)) fnExactAreCongruentCard

/-- THE TIED CARD OF 'laws.FnExactEncodeProcess'. -/
def fnExactEncodeProcessCard : Claim7 := { stood := { row := fnExactEncodeProcessRow, standIns := [], harness := (true, "5c5eafdeefe5b513c62dc821bf159f13eb7ed30e81fe78e12993bbfdd1747357"), looks := false }, kinds := [], alts := [], laidByText := true, laidKinds := [.data, .pinned], laidTests := true, laidLooks := .later }
def FnExactEncodeProcessCardSaid : Prop := Claim7.holds Tryd.pinned (.plain (OpenSpec.ofChange fnExactEncodeProcessSpec)) fnExactEncodeProcessCard

/-- THE SECOND FORM's CARD OF 'laws.FnExactDecodeProcess'. -/
def fnExactDecodeProcessUptoCard : Claim7 := { stood := { row := fnExactDecodeProcessUptoRow, standIns := [], harness := (true, "5c5eafdeefe5b513c62dc821bf159f13eb7ed30e81fe78e12993bbfdd1747357"), looks := false }, kinds := [], alts := [], laidByText := true, laidKinds := [.data, .pinned], laidTests := true, laidLooks := .later }
def FnExactDecodeProcessUptoCardSaid : Prop := Claim7.holds Tryd.pinned (.plain (OpenSpec.upto fnExactDecodeProcessSpec)) fnExactDecodeProcessUptoCard

/-- THE SECOND FORM's CARD OF 'laws.FnExactAreCongruent'. -/
def fnExactAreCongruentUptoCard : Claim7 := { stood := { row := fnExactAreCongruentUptoRow, standIns := [], harness := (true, "5c5eafdeefe5b513c62dc821bf159f13eb7ed30e81fe78e12993bbfdd1747357"), looks := false }, kinds := [], alts := [], laidByText := true, laidKinds := [.data, .pinned], laidTests := true, laidLooks := .later }
def FnExactAreCongruentUptoCardSaid : Prop := Claim7.holds Tryd.pinned (.plain (OpenSpec.upto fnExactAreCongruentSpec)) fnExactAreCongruentUptoCard

/-- THE SECOND FORM's CARD OF 'laws.FnExactEncodeProcess'. -/
def fnExactEncodeProcessUptoCard : Claim7 := { stood := { row := fnExactEncodeProcessUptoRow, standIns := [], harness := (true, "5c5eafdeefe5b513c62dc821bf159f13eb7ed30e81fe78e12993bbfdd1747357"), looks := false }, kinds := [], alts := [], laidByText := true, laidKinds := [.data, .pinned], laidTests := true, laidLooks := .later }
def FnExactEncodeProcessUptoCardSaid : Prop := Claim7.holds Tryd.pinned (.plain (OpenSpec.upto fnExactEncodeProcessSpec)) fnExactEncodeProcessUptoCard
end Rows
end Go.Proofs.YthoblfcjmhppiaaDoor
