/- Merged texts (14 of 15) of the proof that ends in M3y: M3z. -/
import Derived.Test.YtgdmihplkgkiiaaGreatDoorAbQm313
/- The contract of laws.FnExactMatchLinks: it answers true. -/
namespace Go.Ab
open Go.Proofs
theorem exactMatchLinks_ok (a0 : Sig) (a1 : Big) (a2 : Big) (a3 : Match) (h0 : HugeS a0) (h1 : HugeB a1) (h2 : HugeB a2) (h3 : HugeM a3) : PureC Tryz.prog 5 [encSig false a0, encB false a1, encB false a2, .agg [.list false (a3.nodes.map intC), .list false (a3.roots.map intC)]] (fun r => r = bool true) := Vg.lawLinks_ok a0 a1 a2 a3 ⟨h0, h1, h2, h3⟩
end Go.Ab
