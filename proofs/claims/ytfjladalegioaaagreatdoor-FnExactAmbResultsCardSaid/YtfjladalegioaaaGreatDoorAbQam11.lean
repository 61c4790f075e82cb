/- Merged texts (11 of 12) of the proof that ends in Amy: Rp. -/
import Derived.Test.YtfjladalegioaaaGreatDoorAbQam10
open Go.Proofs.Tryz
namespace Go.Proofs.YtfjladalegioaaaGreatDoor
open Go.ChangeShapes Go.WideShapes Go.ChangeAt Go.RowKit Go.Ab
set_option maxRecDepth 100000
theorem own:ownKnob Tryz.prog.godebug=none:=by kernel_rfl
theorem laidOut:laidOutB prog=true:=by kernel_rfl
theorem r0:Tryz.prog.underlying 4=some .bool:=Tryz.underlying4
theorem rNode:Reader prog 50 J.cells (fun x=>x.name.length<=9223372036854775807):=by
 have h:=Reader.struct Tryz.underlying50 (n:=3) (by kernel_rfl) (dg.cons (n:=1) rfl (by kernel_rfl) (Reader.int Tryz.underlying3) (dg.cons (n:=1) rfl (by kernel_rfl) (Reader.str Tryz.underlying9) (dg.cons (n:=1) rfl (by kernel_rfl) (Reader.int Tryz.underlying3) (dg.nil 3))));exact h.map (fun p=>⟨p.1,p.2.1,p.2.2.1⟩) (fun p=>rfl) (fun p hp=>hp.2.1)
theorem uN:tN prog 24 (bq false) Small:=by
 have h:=Reader.struct Tryz.underlying24 (n:=1) (by kernel_rfl) (dg.cons (n:=1) rfl (by kernel_rfl) (Reader.slice Tryz.underlying22 (of_decide_eq_true (by kernel_rfl)) rNode) (dg.nil 1));have h2:=h.map (e':=fun p:aw=>[.list false (p.map J.cells)]) (ok':=Small) (fun p=>p.1) (fun p=>rfl) (fun p hp=>hp.1);exact tN.struct Tryz.underlying24 h2
end Go.Proofs.YtfjladalegioaaaGreatDoor
