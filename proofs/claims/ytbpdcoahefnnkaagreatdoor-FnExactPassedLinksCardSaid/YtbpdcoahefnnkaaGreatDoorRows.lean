/-
  NARROWER THAN 'FOR EVERY INPUT', by the rows' own cells (each row's printed sentence says how): FnExactGuardHolds: laid · FnExactPatternStates: laid · FnExactPassedLinks: laid.
  DERIVED. THE GIVEN ROWS OF THIS SEAT. 3 by the template 'for every input the law returns true; each argument reads behind the call as it read before'; 0 by the template 'total and deterministic' (their statements: YtbpdcoahefnnkaaGreatDoorTotals.lean).
  GIVEN WITH THE SEED: the statements are not yours to turn. If you find one false, say at which input.
  Laid BY PROGRAM, IN A SANDBOX (cutbox-rows.mjs): the forced cells as the released guide's own fill.sh prints them over the translation 27147165e920902d… (all of the seat's roots in one cut). By AI agents, Wed Nov 11 2026. No macro, syntax, notation, axiom, sorry.
-/
import Derived.Test.YtbpdcoahefnnkaaGreatDoorChecked
import GoSem.PinnedTables
import GoSem.Claim
import GoSem.ClaimJoined
import GoSem.ClaimMapViews
import Derived.JoinedTies
import Derived.KernelRfl
namespace Go.Proofs.YtbpdcoahefnnkaaGreatDoor
/- THE CELL 'sum', in the pinned program and in every row, IS THE sha256 OF THE DUMP (.gsa) THAT YtbpdcoahefnnkaaGreatDoorProg.lean LOADS. Nothing in Lean hashes anything: it is a label: what it is worth is what the hold of that sum in a sandbox is worth. -/
noncomputable def Tryz.pinned : Pinned := { name := "ytbpdcoahefnnkaagreatdoor", sum := "27147165e920902d670ac1ae91e5b417dddb875284dc63df72efee86fed2584f", checked := Tryz.checked }
namespace Rows
def none {H : Type} : Left H := { results := [], args := [] }

/- WHAT THE LISTED PACKAGE-LEVEL VARIABLES READ AS WHEN THE CALL BEGINS. Each datum BY PROGRAM (the guide's laid-datum.mjs) off the statement by which the dump's own 'gosem.cut.vars' lays the variable. In a bare row this is a premise. The card (YtbpdcoahefnnkaaGreatDoorCards.lean) ties it to the program's text. -/
def laid_unicode_utf8_acceptRanges {H : Type} : DataW H := .agg [.agg [.lit (.int .u8 128), .lit (.int .u8 191)], .agg [.lit (.int .u8 160), .lit (.int .u8 191)], .agg [.lit (.int .u8 128), .lit (.int .u8 159)], .agg [.lit (.int .u8 144), .lit (.int .u8 191)], .agg [.lit (.int .u8 128), .lit (.int .u8 143)], .agg [.lit (.int .u8 0), .lit (.int .u8 0)], .agg [.lit (.int .u8 0), .lit (.int .u8 0)], .agg [.lit (.int .u8 0), .lit (.int .u8 0)], .agg [.lit (.int .u8 0), .lit (.int .u8 0)], .agg [.lit (.int .u8 0), .lit (.int .u8 0)], .agg [.lit (.int .u8 0), .lit (.int .u8 0)], .agg [.lit (.int .u8 0), .lit (.int .u8 0)], .agg [.lit (.int .u8 0), .lit (.int .u8 0)], .agg [.lit (.int .u8 0), .lit (.int .u8 0)], .agg [.lit (.int .u8 0), .lit (.int .u8 0)], .agg [.lit (.int .u8 0), .lit (.int .u8 0)]]
/-- One of Go's own tables, pinned by name: the form's constant. -/
def laid_unicode_utf8_first : DataW Unit := Go.Pinned.utf8First

/-- 'laws.FnExactGuardHolds': WHATEVER THE INPUT: true; the input reads as it did. -/
def fnExactGuardHoldsSpec : ChangeSpec := { name := "fnExactGuardHolds", fn := fun _ => fun
  | [d1, d2, d3, d4, d5] => { results := [.lit (.bool true)], args := [d1, d2, d3, d4, d5] }
  | _ => none }
def fnExactGuardHoldsRow : OpenClaim := { program := "ytbpdcoahefnnkaagreatdoor", sum := "27147165e920902d670ac1ae91e5b417dddb875284dc63df72efee86fed2584f", func := "loop.example/g01082/laws.FnExactGuardHolds", spec := "fnExactGuardHolds", inPlace := ["internal/bytealg.IndexByteString", "internal/bytealg.IndexString"], unfollowed := true, recurses := true, named := ["unicode/utf8.first", "unicode/utf8.acceptRanges", "internal/bytealg.MaxLen"], apart := false, laid := [("unicode/utf8.acceptRanges", laid_unicode_utf8_acceptRanges), ("unicode/utf8.first", laid_unicode_utf8_first)] }
def FnExactGuardHoldsSaid : Prop := fnExactGuardHoldsRow.holds Tryz.pinned (OpenSpec.ofChange fnExactGuardHoldsSpec)

/-- ITS FALSE NEIGHBOUR: 'it returns false'. Refute it at one input. -/
def fnExactGuardHoldsWrong : ChangeSpec := { name := "fnExactGuardHolds", fn := fun _ => fun
  | [d1, d2, d3, d4, d5] => { results := [.lit (.bool false)], args := [d1, d2, d3, d4, d5] }
  | _ => none }
def FnExactGuardHoldsWrongFalsely : Prop := fnExactGuardHoldsRow.holds Tryz.pinned (OpenSpec.ofChange fnExactGuardHoldsWrong)

/-- 'laws.FnExactPatternStates': WHATEVER THE INPUT: true; the input reads as it did. -/
def fnExactPatternStatesSpec : ChangeSpec := { name := "fnExactPatternStates", fn := fun _ => fun
  | [d1, d2, d3] => { results := [.lit (.bool true)], args := [d1, d2, d3] }
  | _ => none }
def fnExactPatternStatesRow : OpenClaim := { program := "ytbpdcoahefnnkaagreatdoor", sum := "27147165e920902d670ac1ae91e5b417dddb875284dc63df72efee86fed2584f", func := "loop.example/g01082/laws.FnExactPatternStates", spec := "fnExactPatternStates", inPlace := ["internal/bytealg.IndexByteString", "internal/bytealg.IndexString"], unfollowed := true, recurses := true, named := ["unicode/utf8.first", "unicode/utf8.acceptRanges", "internal/bytealg.MaxLen"], apart := false, laid := [("unicode/utf8.acceptRanges", laid_unicode_utf8_acceptRanges), ("unicode/utf8.first", laid_unicode_utf8_first)] }
def FnExactPatternStatesSaid : Prop := fnExactPatternStatesRow.holds Tryz.pinned (OpenSpec.ofChange fnExactPatternStatesSpec)

/-- ITS FALSE NEIGHBOUR: 'it returns false'. Refute it at one input. -/
def fnExactPatternStatesWrong : ChangeSpec := { name := "fnExactPatternStates", fn := fun _ => fun
  | [d1, d2, d3] => { results := [.lit (.bool false)], args := [d1, d2, d3] }
  | _ => none }
def FnExactPatternStatesWrongFalsely : Prop := fnExactPatternStatesRow.holds Tryz.pinned (OpenSpec.ofChange fnExactPatternStatesWrong)

/-- 'laws.FnExactPassedLinks': WHATEVER THE INPUT: true; the input reads as it did. -/
def fnExactPassedLinksSpec : ChangeSpec := { name := "fnExactPassedLinks", fn := fun _ => fun
  | [d1, d2, d3, d4] => { results := [.lit (.bool true)], args := [d1, d2, d3, d4] }
  | _ => none }
def fnExactPassedLinksRow : OpenClaim := { program := "ytbpdcoahefnnkaagreatdoor", sum := "27147165e920902d670ac1ae91e5b417dddb875284dc63df72efee86fed2584f", func := "loop.example/g01082/laws.FnExactPassedLinks", spec := "fnExactPassedLinks", inPlace := ["internal/bytealg.IndexByteString", "internal/bytealg.IndexString"], unfollowed := true, recurses := true, named := ["unicode/utf8.first", "unicode/utf8.acceptRanges", "internal/bytealg.MaxLen"], apart := false, laid := [("unicode/utf8.acceptRanges", laid_unicode_utf8_acceptRanges), ("unicode/utf8.first", laid_unicode_utf8_first)] }
def FnExactPassedLinksSaid : Prop := fnExactPassedLinksRow.holds Tryz.pinned (OpenSpec.ofChange fnExactPassedLinksSpec)

/-- ITS FALSE NEIGHBOUR: 'it returns false'. Refute it at one input. -/
def fnExactPassedLinksWrong : ChangeSpec := { name := "fnExactPassedLinks", fn := fun _ => fun
  | [d1, d2, d3, d4] => { results := [.lit (.bool false)], args := [d1, d2, d3, d4] }
  | _ => none }
def FnExactPassedLinksWrongFalsely : Prop := fnExactPassedLinksRow.holds Tryz.pinned (OpenSpec.ofChange fnExactPassedLinksWrong)

/- THE SECOND FORM. 'bulk': how many values and letters a reading holds, each counted each time it is reached (what is shared counts as often as it is met; a slice's spare places count too). A statement '..UptoSaid' is the law's where the arguments, and the package variables that the reading takes, are together of bulk at most 1048576: NARROWER than '..Said'. Prove '..Said' where nothing that the law and all that it calls make is longer than what came in: it says more and counts as full. Else prove '..UptoSaid'. A law counts once. -/
mutual
def uptoBulk {H : Type} : DataW H → Nat
  | .lit (.string bytes) => bytes.length + 1
  | .lit _ => 1
  | .nil => 1
  | .ptr d => uptoBulk d + 1
  | .slice elems spare => uptoBulkAll elems + uptoBulkAll spare + 1
  | .agg parts => uptoBulkAll parts + 1
  | .iface _ d => uptoBulk d + 1
  | .map entries => uptoBulkEntries entries + 1
  | .held _ => 1
def uptoBulkAll {H : Type} : List (DataW H) → Nat
  | [] => 0
  | d :: r => uptoBulk d + uptoBulkAll r
def uptoBulkEntries {H : Type} : List (Lit × DataW H) → Nat
  | [] => 0
  | x :: r => uptoBulkEntry x + uptoBulkEntries r
def uptoBulkEntry {H : Type} : Lit × DataW H → Nat
  | (.string bytes, d) => bytes.length + uptoBulk d + 1
  | (_, d) => uptoBulk d + 1
 end
def uptoSmall : (H : Type) → List (DataW H) → Bool := fun _ ds => decide (uptoBulkAll ds ≤ 1048576)
def OpenSpec.upto (s : _root_.Go.ChangeSpec) : _root_.Go.OpenSpec := { _root_.Go.OpenSpec.ofChange s with cond := some uptoSmall }

/-- 'laws.FnExactGuardHolds', WHERE WHAT IT READS IS OF BULK AT MOST 1048576: true; the input reads as it did. -/
def fnExactGuardHoldsUptoRow : OpenClaim := { program := "ytbpdcoahefnnkaagreatdoor", sum := "27147165e920902d670ac1ae91e5b417dddb875284dc63df72efee86fed2584f", func := "loop.example/g01082/laws.FnExactGuardHolds", spec := "fnExactGuardHolds", inPlace := ["internal/bytealg.IndexByteString", "internal/bytealg.IndexString"], unfollowed := true, recurses := true, named := ["unicode/utf8.first", "unicode/utf8.acceptRanges", "internal/bytealg.MaxLen"], apart := false, laid := [("unicode/utf8.acceptRanges", laid_unicode_utf8_acceptRanges), ("unicode/utf8.first", laid_unicode_utf8_first)], narrowed := true }
def FnExactGuardHoldsUptoSaid : Prop := fnExactGuardHoldsUptoRow.holds Tryz.pinned (OpenSpec.upto fnExactGuardHoldsSpec)

/-- 'laws.FnExactPatternStates', WHERE WHAT IT READS IS OF BULK AT MOST 1048576: true; the input reads as it did. -/
def fnExactPatternStatesUptoRow : OpenClaim := { program := "ytbpdcoahefnnkaagreatdoor", sum := "27147165e920902d670ac1ae91e5b417dddb875284dc63df72efee86fed2584f", func := "loop.example/g01082/laws.FnExactPatternStates", spec := "fnExactPatternStates", inPlace := ["internal/bytealg.IndexByteString", "internal/bytealg.IndexString"], unfollowed := true, recurses := true, named := ["unicode/utf8.first", "unicode/utf8.acceptRanges", "internal/bytealg.MaxLen"], apart := false, laid := [("unicode/utf8.acceptRanges", laid_unicode_utf8_acceptRanges), ("unicode/utf8.first", laid_unicode_utf8_first)], narrowed := true }
def FnExactPatternStatesUptoSaid : Prop := fnExactPatternStatesUptoRow.holds Tryz.pinned (OpenSpec.upto fnExactPatternStatesSpec)

/-- 'laws.FnExactPassedLinks', WHERE WHAT IT READS IS OF BULK AT MOST 1048576: true; the input reads as it did. -/
def fnExactPassedLinksUptoRow : OpenClaim := { program := "ytbpdcoahefnnkaagreatdoor", sum := "27147165e920902d670ac1ae91e5b417dddb875284dc63df72efee86fed2584f", func := "loop.example/g01082/laws.FnExactPassedLinks", spec := "fnExactPassedLinks", inPlace := ["internal/bytealg.IndexByteString", "internal/bytealg.IndexString"], unfollowed := true, recurses := true, named := ["unicode/utf8.first", "unicode/utf8.acceptRanges", "internal/bytealg.MaxLen"], apart := false, laid := [("unicode/utf8.acceptRanges", laid_unicode_utf8_acceptRanges), ("unicode/utf8.first", laid_unicode_utf8_first)], narrowed := true }
def FnExactPassedLinksUptoSaid : Prop := fnExactPassedLinksUptoRow.holds Tryz.pinned (OpenSpec.upto fnExactPassedLinksSpec)

end Rows
end Go.Proofs.YtbpdcoahefnnkaaGreatDoor
