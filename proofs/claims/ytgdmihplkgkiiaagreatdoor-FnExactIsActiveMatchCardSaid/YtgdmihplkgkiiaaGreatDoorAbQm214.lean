/- Merged texts (14 of 15) of the proof that ends in M2y: M2z. -/
import Derived.Test.YtgdmihplkgkiiaaGreatDoorAbQm213
/- The contract of laws.FnExactIsActiveMatch: it answers true. -/
namespace Go.Ab
open Go.Proofs
theorem exactIsActiveMatch_ok (a0 : Sig) (a1 : Big) (a2 : Big) (a3 : Match) (h0 : HugeS a0) (h1 : HugeB a1) (h2 : HugeB a2) (h3 : HugeM a3) : PureC Tryz.prog 4 [encSig false a0, encB false a1, encB false a2, .agg [.list false (a3.nodes.map intC), .list false (a3.roots.map intC)]] (fun r => r = bool true) := Vg.lawActive_ok a0 a1 a2 a3 ⟨h0, h1, h2, h3⟩
end Go.Ab
