/- Merged texts (14 of 15) of the proof that ends in Ljy: Rm Ljz. -/
import Derived.Test.YtbpdcoahefnnkaaGreatDoorAbQlj13
/- Reader of a law's argument: a match. (Template: YtbpdcoahefnnkaaGreatDoor, Tryz, 34 the number of laws.Match.) -/
namespace Go.Ab
abbrev HugeM (m : Match) : Prop := m.nodes.length ≤ 9223372036854775807 ∧ m.roots.length ≤ 9223372036854775807
end Go.Ab
namespace Go.Proofs.YtbpdcoahefnnkaaGreatDoor
open Go.ChangeShapes Go.WideShapes Go.ChangeAt Go.RowKit Go.Ab
set_option maxRecDepth 100000
theorem rMatch : ArgR Tryz.prog 34 (fun m : Go.Ab.Match => .agg [.list false (m.nodes.map intC), .list false (m.roots.map intC)]) HugeM := by
 have h := Reader.struct Tryz.underlying34 (n := 2) (by kernel_rfl) (FReader.cons (n := 1) rfl (by kernel_rfl) rInts (FReader.cons (n := 1) rfl (by kernel_rfl) rInts (FReader.nil 2)))
 have h2 := h.map (e' := Go.Ab.Match.cells false) (ok' := HugeM) (fun p => ⟨p.1, p.2.1⟩) (fun p => rfl) (fun p hp => ⟨hp.1.1, hp.2.1.1⟩)
 exact ArgR.struct Tryz.underlying34 h2
end Go.Proofs.YtbpdcoahefnnkaaGreatDoor
/- The contract of laws.FnExactGuardHolds: it answers true. -/
namespace Go.Ab
open Go.Proofs
theorem exactGuardHolds_ok (a0 : Sig) (a1 : Guard) (a2 : Rule) (a3 : Big) (a4 : Match) (h0 : HugeS a0) (h1 : HugeG a1) (h2 : HugeR a2) (h3 : HugeB a3) (h4 : HugeM a4) : PureC Tryz.prog 3 [encSig false a0, .agg (Guard.cells false a1), .agg (Rule.cells false a2), encB false a3, .agg [.list false (a4.nodes.map intC), .list false (a4.roots.map intC)]] (fun r => r = bool true) := Vg.lawGuard_ok a0 a1 a2 a3 a4 ⟨h0, h1, h2, h3, h4⟩
end Go.Ab
