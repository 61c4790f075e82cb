/- Merged texts (9 of 10) of the proof that ends in Ey: Rp. -/
import Derived.Test.YthahiicfnadamaaDoorAbQe8
/- Readers of the laws' arguments: processes. -/
namespace Go.Proofs.YthahiicfnadamaaDoor
open Go.ChangeShapes Go.WideShapes Go.ChangeAt Go.RowKit Go.Ab
set_option maxRecDepth 100000

theorem own : ownKnob Tryd.prog.godebug = none := by kernel_rfl
theorem laidOut : laidOutB Tryd.prog = true := by kernel_rfl
theorem underBool : Tryd.prog.underlying 4 = some .bool := Tryd.underlying4

theorem rNode : Reader Tryd.prog 59 AmbNode.cells (fun x => x.name.length ≤ 9223372036854775807) := by
  have h := Reader.struct Tryd.underlying59 (n := 3) (by kernel_rfl) (FReader.cons (n := 1) rfl (by kernel_rfl) (Reader.int Tryd.underlying3) (FReader.cons (n := 1) rfl (by kernel_rfl) (Reader.str Tryd.underlying9) (FReader.cons (n := 1) rfl (by kernel_rfl) (Reader.int Tryd.underlying3) (FReader.nil 3))))
  exact h.map (fun p => ⟨p.1, p.2.1, p.2.2.1⟩) (fun p => rfl) (fun p hp => hp.2.1)

theorem rProcess : ArgR Tryd.prog 24 (encP false) Small := by
  have h := Reader.struct Tryd.underlying24 (n := 1) (by kernel_rfl) (FReader.cons (n := 1) rfl (by kernel_rfl) (Reader.slice Tryd.underlying22 (of_decide_eq_true (by kernel_rfl)) rNode) (FReader.nil 1))
  have h2 := h.map (e' := fun p : Proc => [.list false (p.map AmbNode.cells)]) (ok' := Small) (fun p => p.1) (fun p => rfl) (fun p hp => hp.1)
  exact ArgR.struct Tryd.underlying24 h2

set_option maxRecDepth 100000 in
theorem rStr : ArgR Tryd.prog 9 (fun s : Str => Ab.str s) (fun s => s.length ≤ 9223372036854775807) := by
  refine ArgR.cell ?_ ?_
  · exact cell_string Tryd.underlying9
  · exact Reader.str Tryd.underlying9
end Go.Proofs.YthahiicfnadamaaDoor
