/- Merged texts (10 of 11) of the proof that ends in My: Rp Rs. -/
import Derived.Test.YtkhhalniblpkcaaGreatDoorAbQm9
/- Readers of the laws' arguments: processes. -/
namespace Go.Proofs.YtkhhalniblpkcaaGreatDoor
open Go.ChangeShapes Go.WideShapes Go.ChangeAt Go.RowKit Go.Ab
set_option maxRecDepth 100000

theorem own : ownKnob Tryz.prog.godebug = none := by kernel_rfl
theorem laidOut : laidOutB Tryz.prog = true := by kernel_rfl
theorem underBool : Tryz.prog.underlying 4 = some .bool := Tryz.underlying4

theorem rNode : Reader Tryz.prog 62 AmbNode.cells (fun x => x.name.length ≤ 9223372036854775807) := by
  have h := Reader.struct Tryz.underlying62 (n := 3) (by kernel_rfl) (FReader.cons (n := 1) rfl (by kernel_rfl) (Reader.int Tryz.underlying3) (FReader.cons (n := 1) rfl (by kernel_rfl) (Reader.str Tryz.underlying9) (FReader.cons (n := 1) rfl (by kernel_rfl) (Reader.int Tryz.underlying3) (FReader.nil 3))))
  exact h.map (fun p => ⟨p.1, p.2.1, p.2.2.1⟩) (fun p => rfl) (fun p hp => hp.2.1)

theorem rProcess : ArgR Tryz.prog 24 (encP false) Small := by
  have h := Reader.struct Tryz.underlying24 (n := 1) (by kernel_rfl) (FReader.cons (n := 1) rfl (by kernel_rfl) (Reader.slice Tryz.underlying22 (of_decide_eq_true (by kernel_rfl)) rNode) (FReader.nil 1))
  have h2 := h.map (e' := fun p : Proc => [.list false (p.map AmbNode.cells)]) (ok' := Small) (fun p => p.1) (fun p => rfl) (fun p hp => hp.1)
  exact ArgR.struct Tryz.underlying24 h2

set_option maxRecDepth 100000 in
theorem rStr : ArgR Tryz.prog 9 (fun s : Str => Ab.str s) (fun s => s.length ≤ 9223372036854775807) := by
  refine ArgR.cell ?_ ?_
  · exact cell_string Tryz.underlying9
  · exact Reader.str Tryz.underlying9
end Go.Proofs.YtkhhalniblpkcaaGreatDoor

/- Reader of a law's argument: a step of ambients. (Template: YtkhhalniblpkcaaGreatDoor, Tryz, 36 the type's number.) -/
namespace Go.Proofs.YtkhhalniblpkcaaGreatDoor
open Go.ChangeShapes Go.WideShapes Go.ChangeAt Go.RowKit Go.Ab
set_option maxRecDepth 100000
theorem rStep : ArgR Tryz.prog 36 (fun s : AmbStep => .agg s.cells) (fun _ => True) := by
  have h := Reader.struct Tryz.underlying36 (n := 3) (by kernel_rfl) (FReader.cons (n := 1) rfl (by kernel_rfl) (Reader.int Tryz.underlying3) (FReader.cons (n := 1) rfl (by kernel_rfl) (Reader.int Tryz.underlying3) (FReader.cons (n := 1) rfl (by kernel_rfl) (Reader.int Tryz.underlying3) (FReader.nil 3))))
  have h2 := h.map (e' := AmbStep.cells) (ok' := fun _ => True) (fun p => ⟨p.1, p.2.1, p.2.2.1⟩) (fun p => rfl) (fun p hp => trivial)
  exact ArgR.struct Tryz.underlying36 h2
end Go.Proofs.YtkhhalniblpkcaaGreatDoor
