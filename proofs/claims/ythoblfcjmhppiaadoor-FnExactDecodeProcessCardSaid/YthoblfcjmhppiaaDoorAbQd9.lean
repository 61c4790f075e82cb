/- Merged texts (9 of 10) of the proof that ends in Dy: Rp Rb. -/
import Derived.Test.YthoblfcjmhppiaaDoorAbQd8
/- Readers of the laws' arguments: processes. -/
namespace Go.Proofs.YthoblfcjmhppiaaDoor
open Go.ChangeShapes Go.WideShapes Go.ChangeAt Go.RowKit Go.Ab
set_option maxRecDepth 100000

theorem own : ownKnob Tryd.prog.godebug = none := by kernel_rfl
theorem laidOut : laidOutB Tryd.prog = true := by kernel_rfl
theorem underBool : Tryd.prog.underlying 4 = some .bool := Tryd.underlying4

theorem rNode : Reader Tryd.prog 100 AmbNode.cells (fun x => x.name.length ≤ 9223372036854775807) := by
  have h := Reader.struct Tryd.underlying100 (n := 3) (by kernel_rfl) (FReader.cons (n := 1) rfl (by kernel_rfl) (Reader.int Tryd.underlying3) (FReader.cons (n := 1) rfl (by kernel_rfl) (Reader.str Tryd.underlying9) (FReader.cons (n := 1) rfl (by kernel_rfl) (Reader.int Tryd.underlying3) (FReader.nil 3))))
  exact h.map (fun p => ⟨p.1, p.2.1, p.2.2.1⟩) (fun p => rfl) (fun p hp => hp.2.1)

theorem rProcess : ArgR Tryd.prog 46 (encP false) Small := by
  have h := Reader.struct Tryd.underlying46 (n := 1) (by kernel_rfl) (FReader.cons (n := 1) rfl (by kernel_rfl) (Reader.slice Tryd.underlying44 (of_decide_eq_true (by kernel_rfl)) rNode) (FReader.nil 1))
  have h2 := h.map (e' := fun p : Proc => [.list false (p.map AmbNode.cells)]) (ok' := Small) (fun p => p.1) (fun p => rfl) (fun p hp => hp.1)
  exact ArgR.struct Tryd.underlying46 h2

set_option maxRecDepth 100000 in
theorem rStr : ArgR Tryd.prog 9 (fun s : Str => Ab.str s) (fun s => s.length ≤ 9223372036854775807) := by
  refine ArgR.cell ?_ ?_
  · exact cell_string Tryd.underlying9
  · exact Reader.str Tryd.underlying9
end Go.Proofs.YthoblfcjmhppiaaDoor

/- Readers of the laws' arguments: signatures and bigraphs. -/
namespace Go.Proofs.YthoblfcjmhppiaaDoor
open Go.ChangeShapes Go.WideShapes Go.ChangeAt Go.RowKit Go.Ab
set_option maxRecDepth 100000

theorem rWire : Reader Tryd.prog 89 Wire.cells (fun x => x.name.length ≤ 9223372036854775807) := by
  have h := Reader.struct Tryd.underlying89 (n := 2) (by kernel_rfl) (FReader.cons (n := 1) rfl (by kernel_rfl) (Reader.str Tryd.underlying9) (FReader.cons (n := 1) rfl (by kernel_rfl) (Reader.int Tryd.underlying3) (FReader.nil 2)))
  exact h.map (fun p => ⟨p.1, p.2.1⟩) (fun p => rfl) (fun p hp => hp.1)

theorem rInts : Reader Tryd.prog 23 (fun l : List Int => [Ab.encI false l]) (fun l => l.length ≤ 9223372036854775807 ∧ ∀ p ∈ l, I64 p) :=
  Reader.slice Tryd.underlying23 (of_decide_eq_true (by kernel_rfl)) (Reader.int Tryd.underlying3)

theorem rStrs : Reader Tryd.prog 24 (fun l : List Str => [Ab.encS false l]) (fun l => l.length ≤ 9223372036854775807 ∧ ∀ s ∈ l, s.length ≤ 9223372036854775807) :=
  Reader.slice Tryd.underlying24 (of_decide_eq_true (by kernel_rfl)) (Reader.str Tryd.underlying9)

theorem rGNode : Reader Tryd.prog 86 (GNode.cells false) (fun x => x.links.length ≤ 9223372036854775807 ∧ I64 x.parent) := by
  have h := Reader.struct Tryd.underlying86 (n := 3) (by kernel_rfl) (FReader.cons (n := 1) rfl (by kernel_rfl) (Reader.int Tryd.underlying3) (FReader.cons (n := 1) rfl (by kernel_rfl) (Reader.int Tryd.underlying3) (FReader.cons (n := 1) rfl (by kernel_rfl) rInts (FReader.nil 3))))
  exact h.map (fun p => ⟨p.1, p.2.1, p.2.2.1⟩) (fun p => rfl) (fun p hp => ⟨hp.2.2.1.1, hp.2.1⟩)

theorem rNodes : Reader Tryd.prog 22 (fun l : List GNode => [Ab.encN false l]) (fun l => l.length ≤ 9223372036854775807 ∧ ∀ x ∈ l, x.links.length ≤ 9223372036854775807 ∧ I64 x.parent) :=
  Reader.slice Tryd.underlying22 (of_decide_eq_true (by kernel_rfl)) rGNode

theorem rWires : Reader Tryd.prog 25 (fun l : List Wire => [Ab.encW false l]) (fun l => l.length ≤ 9223372036854775807 ∧ ∀ x ∈ l, x.name.length ≤ 9223372036854775807) :=
  Reader.slice Tryd.underlying25 (of_decide_eq_true (by kernel_rfl)) rWire

theorem rBig : ArgR Tryd.prog 27 (encB false) HugeB := by
  have h := Reader.struct Tryd.underlying27 (n := 6) (by kernel_rfl) (FReader.cons (n := 1) rfl (by kernel_rfl) (Reader.int Tryd.underlying3) (FReader.cons (n := 1) rfl (by kernel_rfl) rNodes (FReader.cons (n := 1) rfl (by kernel_rfl) rInts
    (FReader.cons (n := 1) rfl (by kernel_rfl) (Reader.int Tryd.underlying3) (FReader.cons (n := 1) rfl (by kernel_rfl) rStrs (FReader.cons (n := 1) rfl (by kernel_rfl) rWires (FReader.nil 6)))))))
  have h2 := h.map (e' := Big.cells false) (ok' := HugeB) (fun p => ⟨p.1, p.2.1, p.2.2.1, p.2.2.2.1, p.2.2.2.2.1, p.2.2.2.2.2.1⟩) (fun p => rfl) (fun p hp => by
    obtain ⟨_, h1, h2, _, h3, h4, _⟩ := hp
    exact ⟨h1.1, fun x hx => (h1.2 x hx).1, h2.1, h3.1, h3.2, h4.1, h4.2, fun x hx => (h1.2 x hx).2, h2.2⟩)
  exact ArgR.struct Tryd.underlying27 h2

theorem rInt : ArgR Tryd.prog 3 (fun n : Int => Ab.int n) I64 := by
  refine ArgR.cell ?_ ?_
  · exact cell_int Tryd.underlying3
  · exact Reader.int Tryd.underlying3
end Go.Proofs.YthoblfcjmhppiaaDoor
