/-
  DERIVED. GIVEN WITH THE SEED: THE CARDS: each row of YtlmihcmpigdojaaGreatDoorRows.lean that lists a variable, with what it lists TIED to the program's text (the seventh form; the later family's looks); each row that meets fmt, with fmt's text TOLD by the authors' own Lean function (tested against real Go, not proved from fmt's source: count such statements apart). THE CARD IS WHAT COUNTS. Prove the row's statement (the work); the ties are given (YtlmihcmpigdojaaGreatDoorTie.lean); close each card by the builder's one call (the guide's Derived/Test/ToyasCard.lean, 'card_holds'). Laid BY PROGRAM, IN A SANDBOX (cutbox-door.mjs). By AI agents, Wed Nov 11 2026. No macro, syntax, notation, axiom, sorry.
-/
import Derived.Test.YtlmihcmpigdojaaGreatDoorRows
import GoSem.ClaimSeven
namespace Go.Proofs.YtlmihcmpigdojaaGreatDoor
namespace Rows

/-- THE TIED CARD OF 'laws.FnExactCodeOf'. -/
def fnExactCodeOfCard : Claim7 := { stood := { row := fnExactCodeOfRow, standIns := [], harness := (true, "65e7345bc906146986bd29cdcc4a4e1c70c1f99fe0c1ff92ec4bc3cf3765be9c"), looks := false }, kinds := [], alts := [], laidByText := true, laidKinds := [.data, .pinned], laidTests := true, laidLooks := .later }
def FnExactCodeOfCardSaid : Prop := Claim7.holds Tryz.pinned (.plain (OpenSpec.ofChange fnExactCodeOfSpec)) fnExactCodeOfCard

/-- THE TIED CARD OF 'laws.FnExactCanonicalOrder'. -/
def fnExactCanonicalOrderCard : Claim7 := { stood := { row := fnExactCanonicalOrderRow, standIns := [], harness := (true, "65e7345bc906146986bd29cdcc4a4e1c70c1f99fe0c1ff92ec4bc3cf3765be9c"), looks := false }, kinds := [], alts := [], laidByText := true, laidKinds := [.data, .pinned], laidTests := true, laidLooks := .later }
def FnExactCanonicalOrderCardSaid : Prop := Claim7.holds Tryz.pinned (.plain (OpenSpec.ofChange fnExactCanonicalOrderSpec)) fnExactCanonicalOrderCard

/-- THE TIED CARD OF 'laws.FnExactIsCanonical'. -/
def fnExactIsCanonicalCard : Claim7 := { stood := { row := fnExactIsCanonicalRow, standIns := [], harness := (true, "65e7345bc906146986bd29cdcc4a4e1c70c1f99fe0c1ff92ec4bc3cf3765be9c"), looks := false }, kinds := [], alts := [], laidByText := true, laidKinds := [.data, .pinned], laidTests := true, laidLooks := .later }
def FnExactIsCanonicalCardSaid : Prop := Claim7.holds Tryz.pinned (.plain (OpenSpec.ofChange fnExactIsCanonicalSpec)) fnExactIsCanonicalCard

/-- THE TIED CARD OF 'laws.FnExactCanonicalOf'. -/
def fnExactCanonicalOfCard : Claim7 := { stood := { row := fnExactCanonicalOfRow, standIns := [], harness := (true, "65e7345bc906146986bd29cdcc4a4e1c70c1f99fe0c1ff92ec4bc3cf3765be9c"), looks := false }, kinds := [], alts := [], laidByText := true, laidKinds := [.data, .pinned], laidTests := true, laidLooks := .later }
def FnExactCanonicalOfCardSaid : Prop := Claim7.holds Tryz.pinned (.plain (OpenSpec.ofChange fnExactCanonicalOfSpec)) fnExactCanonicalOfCard

/-- THE TIED CARD OF 'laws.FnExactKeyOf'. -/
def fnExactKeyOfCard : Claim7 := { stood := { row := fnExactKeyOfRow, standIns := [], harness := (true, "65e7345bc906146986bd29cdcc4a4e1c70c1f99fe0c1ff92ec4bc3cf3765be9c"), looks := false }, kinds := [], alts := [], laidByText := true, laidKinds := [.data, .data, .data, .data, .pinned], laidTests := true, laidLooks := .later }
def FnExactKeyOfCardSaid : Prop := Claim7.holds Tryz.pinned (.plain (OpenSpec.ofChange fnExactKeyOfSpec)) fnExactKeyOfCard

/-- THE SECOND FORM's CARD OF 'laws.FnExactCodeOf'. -/
def fnExactCodeOfUptoCard : Claim7 := { stood := { row := fnExactCodeOfUptoRow, standIns := [], harness := (true, "65e7345bc906146986bd29cdcc4a4e1c70c1f99fe0c1ff92ec4bc3cf3765be9c"), looks := false }, kinds := [], alts := [], laidByText := true, laidKinds := [.data, .pinned], laidTests := true, laidLooks := .later }
def FnExactCodeOfUptoCardSaid : Prop := Claim7.holds Tryz.pinned (.plain (OpenSpec.upto fnExactCodeOfSpec)) fnExactCodeOfUptoCard

/-- THE SECOND FORM's CARD OF 'laws.FnExactCanonicalOrder'. -/
def fnExactCanonicalOrderUptoCard : Claim7 := { stood := { row := fnExactCanonicalOrderUptoRow, standIns := [], harness := (true, "65e7345bc906146986bd29cdcc4a4e1c70c1f99fe0c1ff92ec4bc3cf3765be9c"), looks := false }, kinds := [], alts := [], laidByText := true, laidKinds := [.data, .pinned], laidTests := true, laidLooks := .later }
def FnExactCanonicalOrderUptoCardSaid : Prop := Claim7.holds Tryz.pinned (.plain (OpenSpec.upto fnExactCanonicalOrderSpec)) fnExactCanonicalOrderUptoCard

/-- THE SECOND FORM's CARD OF 'laws.FnExactIsCanonical'. -/
def fnExactIsCanonicalUptoCard : Claim7 := { stood := { row := fnExactIsCanonicalUptoRow, standIns := [], harness := (true, "65e7345bc906146986bd29cdcc4a4e1c70c1f99fe0c1ff92ec4bc3cf3765be9c"), looks := false }, kinds := [], alts := [], laidByText := true, laidKinds := [.data, .pinned], laidTests := true, laidLooks := .later }
def FnExactIsCanonicalUptoCardSaid : Prop := Claim7.holds Tryz.pinned (.plain (OpenSpec.upto fnExactIsCanonicalSpec)) fnExactIsCanonicalUptoCard

/-- THE SECOND FORM's CARD OF 'laws.FnExactCanonicalOf'. -/
def fnExactCanonicalOfUptoCard : Claim7 := { stood := { row := fnExactCanonicalOfUptoRow, standIns := [], harness := (true, "65e7345bc906146986bd29cdcc4a4e1c70c1f99fe0c1ff92ec4bc3cf3765be9c"), looks := false }, kinds := [], alts := [], laidByText := true, laidKinds := [.data, .pinned], laidTests := true, laidLooks := .later }
def FnExactCanonicalOfUptoCardSaid : Prop := Claim7.holds Tryz.pinned (.plain (OpenSpec.upto fnExactCanonicalOfSpec)) fnExactCanonicalOfUptoCard

/-- THE SECOND FORM's CARD OF 'laws.FnExactKeyOf'. -/
def fnExactKeyOfUptoCard : Claim7 := { stood := { row := fnExactKeyOfUptoRow, standIns := [], harness := (true, "65e7345bc906146986bd29cdcc4a4e1c70c1f99fe0c1ff92ec4bc3cf3765be9c"), looks := false }, kinds := [], alts := [], laidByText := true, laidKinds := [.data, .data, .data, .data, .pinned], laidTests := true, laidLooks := .later }
def FnExactKeyOfUptoCardSaid : Prop := Claim7.holds Tryz.pinned (.plain (OpenSpec.upto fnExactKeyOfSpec)) fnExactKeyOfUptoCard
end Rows
end Go.Proofs.YtlmihcmpigdojaaGreatDoor
